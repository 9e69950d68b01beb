/- WyG. Printed by gen.py. -/
import Derived.Test.YtopmadlgolnmfaaWyF
import Derived.Test.YtopmadlgolnmfaaE4
namespace Go.Proofs.Ytopmadlgolnmfaa
open Go.RowKit
set_option linter.unusedVariables false
set_option linter.unusedSimpArgs false
set_option maxRecDepth 100000
set_option maxHeartbeats 4000000


theorem net_nodeN (P T : Nat) (ps : List Psg) (PA : Option Addr) (pc : Nat) (xs : List Int) (XA : Option Addr) (xc : Nat) (b31 : Nat) (EA : Option Addr) (p t : Nat) (w : World) (F : Nat → Prop) (S : St w F [boxM b31 157 [.int .i64 (P : Int), .slice PA ps.length pc, .slice XA xs.length xc, .int .i64 (T : Int), .slice EA ((P * (T + 1)) + 2) ((P * (T + 1)) + 2), .int .i64 (((P * (T + 1)) : Nat) : Int), .int .i64 (((P * (T + 1)) + 1 : Nat) : Int)]] w) (hp : p ≤ 100000) (ht : t ≤ 100000) (hP : P ≤ 1000) :
    Calls Try.prog 89 [.pointer (some ⟨b31, 0, none⟩), .int .i64 (p : Int), .int .i64 (t : Int)].toArray w (Ret fun u w' => u = .int .i64 ((nd P t p : Nat) : Int) ∧ St w F [boxM b31 157 [.int .i64 (P : Int), .slice PA ps.length pc, .slice XA xs.length xc, .int .i64 (T : Int), .slice EA ((P * (T + 1)) + 2) ((P * (T + 1)) + 2), .int .i64 (((P * (T + 1)) : Nat) : Int), .int .i64 (((P * (T + 1)) + 1 : Nat) : Int)]] w') := by
  have hb : P * t ≤ 1000 * 100000 := Nat.mul_le_mul hP ht
  have hb2 : ((P * t : Nat) : Int) = (P : Int) * (t : Int) := Int.natCast_mul P t
  have h := net_node ⟨(P * (T + 1)) + 2, fun _ => 0, fun _ _ => 0, fun _ _ => 0⟩ (fun _ _ => 0) (fun _ _ => Mv.zero) b31 (P : Int) (T : Int) _ _ EA (fun _ => none) (fun _ => 0) (P * (T + 1)) ((P * (T + 1)) + 1) (p : Int) (t : Int) w F S (by omega) (by unfold i64ok; omega) (by unfold i64ok; omega)
  refine w8ret_imp h fun v w' h => ⟨h.1.trans ?_, h.2⟩
  unfold nd
  rw [Int.natCast_add, hb2]
/-- Edges that are joined so far: their ends lie apart and in the net. -/
def JG (P T : Nat) (J : List Jn) (n : Nat) : Prop := (∀ j ∈ J, JOk P T j) ∧ J.length ≤ n
theorem JG.snoc {P T n : Nat} {J : List Jn} {j : Jn} (h : JG P T J n) (hj : JOk P T j) : JG P T (J ++ [j]) (n + 1) :=
  ⟨fun x hx => by
    rcases List.mem_append.1 hx with hx | hx
    · exact h.1 x hx
    · rw [List.mem_singleton.1 hx]; exact hj, by have := h.2; simp; omega⟩
theorem JG.len {P T n : Nat} {J : List Jn} (h : JG P T J n) (hn : n ≤ 1000000) : ∀ i, i < (P * (T + 1)) + 2 → (joins J i).length ≤ 1000000 := fun i _ => Nat.le_trans (joins_len J (fun j hj => (h.1 j hj).1) i) (Nat.le_trans h.2 hn)
theorem JG.places {P T p : Nat} {pe xs : List Int} (hp : p ≤ P) : JG P T (jPlaces P T pe xs p) (p * (2 * T + 2)) := ⟨jPlaces_ok hp, jPlaces_len p⟩
theorem waits_snoc {P p t : Nat} {A : List Jn} {b : Jn} : A ++ (b :: jWaits P p (t + 1)) = (A ++ (b :: jWaits P p t)) ++ [jWait P p t] := by unfold jWaits; rw [range_snoc]; simp
theorem exits_snoc {P T p t : Nat} {A B : List Jn} {b : Jn} : A ++ (b :: (B ++ jExits P T p (t + 1))) = (A ++ (b :: (B ++ jExits P T p t))) ++ [jExit P T p t] := by unfold jExits; rw [range_snoc]; simp
theorem heads_snoc {P t : Nat} {h : Hd} {A : List Jn} : A ++ jHeadN P h (t + 1) = (A ++ jHeadN P h t) ++ [jHead P h t] := by unfold jHeadN; rw [range_snoc]; simp
theorem exits0 {P T p : Nat} {A : List Jn} {b : Jn} : A ++ (b :: jWaits P p T) = A ++ (b :: (jWaits P p T ++ jExits P T p 0)) := by rw [show jExits P T p 0 = [] from rfl, List.append_nil]
theorem headn0 {P : Nat} {h : Hd} {A : List Jn} : A = A ++ jHeadN P h 0 := (List.append_nil A).symm
theorem heads0 {P T : Nat} {hs : List Hd} {A : List Jn} : A = A ++ jHeads P T hs 0 := (List.append_nil A).symm
theorem place_no {P T p : Nat} {pe xs : List Int} (h : hasI xs p = false) : jPlaces P T pe xs p ++ (jBeg P T pe p :: jWaits P p T) = jPlaces P T pe xs (p + 1) := by
  rw [jPlaces, jPlace, if_neg (by rw [h]; simp), List.append_nil]
theorem place_yes {P T p : Nat} {pe xs : List Int} (h : hasI xs p = true) : jPlaces P T pe xs p ++ (jBeg P T pe p :: (jWaits P p T ++ jExits P T p (T + 1))) = jPlaces P T pe xs (p + 1) := by
  rw [jPlaces, jPlace, if_pos h]
theorem net_nodeI (P T : Nat) (ps : List Psg) (PA : Option Addr) (pc : Nat) (xs : List Int) (XA : Option Addr) (xc : Nat) (b31 : Nat) (EA : Option Addr) (p : Int) (t : Nat) (w : World) (F : Nat → Prop) (S : St w F [boxM b31 157 [.int .i64 (P : Int), .slice PA ps.length pc, .slice XA xs.length xc, .int .i64 (T : Int), .slice EA ((P * (T + 1)) + 2) ((P * (T + 1)) + 2), .int .i64 (((P * (T + 1)) : Nat) : Int), .int .i64 (((P * (T + 1)) + 1 : Nat) : Int)]] w) (hp : 0 ≤ p ∧ p ≤ 100000) (ht : t ≤ 100000) (hP : P ≤ 1000) :
    Calls Try.prog 89 [.pointer (some ⟨b31, 0, none⟩), .int .i64 p, .int .i64 (t : Int)].toArray w (Ret fun u w' => u = .int .i64 ((nd P t p.toNat : Nat) : Int) ∧ St w F [boxM b31 157 [.int .i64 (P : Int), .slice PA ps.length pc, .slice XA xs.length xc, .int .i64 (T : Int), .slice EA ((P * (T + 1)) + 2) ((P * (T + 1)) + 2), .int .i64 (((P * (T + 1)) : Nat) : Int), .int .i64 (((P * (T + 1)) + 1 : Nat) : Int)]] w') := by
  have h := net_nodeN P T ps PA pc xs XA xc b31 EA p.toNat t w F S (by omega) ht hP
  rw [Int.toNat_of_nonneg hp.1] at h
  exact h
theorem mk_hdc : ∀ k j, j < 1 → [Value.slice none 0 0].getD j undef = hdc (fun _ => none) (tlen (joins [])) (fun _ => 0) k j := by
  intro k j hj
  have : j = 0 := by omega
  subst this; rfl


theorem ways_lay (P T : Nat) (ps : List Psg) (PA : Option Addr) (pc : Nat) (xs : List Int) (XA : Option Addr) (xc : Nat) (out : Int) (pe : List Int) (BA : Option Addr) (bc : Nat) (w : World) (hps : InS w noF 7 PA ps.length (pcell ps)) (hpn : ps.length ≤ 9223372036854775807) (hxs : InS w noF 1 XA xs.length (icl xs)) (hxn : xs.length ≤ 9223372036854775807) (hmv : ∀ k, k < ps.length → (ps.getD k Psg.zero).kind = 3 → 0 ≤ (ps.getD k Psg.zero).mach ∧ (ps.getD k Psg.zero).mach ≤ 11) (hout : 0 ≤ out) (hpe : InS w noF 1 BA pe.length (icl pe)) (hpl : pe.length = P) (hP : 1 ≤ P ∧ P ≤ 10) (hT : T ≤ 60) (hpn8 : ps.length ≤ 24) (hhd : ∀ i, i < (hds out xs ps).length → HdOk P ((hds out xs ps).getD i Hd.zero)) :
    Calls Try.prog 67 [.agg [.int .i64 (P : Int), .slice PA ps.length pc, .slice XA xs.length xc].toArray, .int .i64 out, .slice BA pe.length bc, .int .i64 (T : Int)].toArray w (Ret (fun u w' => ∃ b31 EA A' c', u = .pointer (some ⟨b31, 0, none⟩) ∧ St w noF [boxM b31 157 [.int .i64 (P : Int), .slice PA ps.length pc, .slice XA xs.length xc, .int .i64 (T : Int), .slice EA ((P * (T + 1)) + 2) ((P * (T + 1)) + 2), .int .i64 (((P * (T + 1)) : Nat) : Int), .int .i64 (((P * (T + 1)) + 1 : Nat) : Int)], ownM 175 1 EA ((P * (T + 1)) + 2) ((P * (T + 1)) + 2) (hdc A' (tlen (joins (jAll P T pe xs (hds out xs ps)))) c'), ragM 177 7 (fun q => q < (P * (T + 1)) + 2) A' (tlen (joins (jAll P T pe xs (hds out xs ps)))) c' (tcell (joins (jAll P T pe xs (hds out xs ps))))] w')) := by
 have hC : P * (T + 1) ≤ 10 * 61 := Nat.mul_le_mul (by omega) (by omega)
 have hC2 : ((P * (T + 1) : Nat) : Int) = (P : Int) * ((T : Int) + 1) := by rw [Int.natCast_mul]; rfl
 refine enterM Try.func67 rfl Try.ntmps67 rfl (fun a H => ?_)
 have S := St.start w
 refine seq_list fun K1 k1 => ?_
 refine list_box H rfl S rfl rfl ?_;clear H a S;intro b4 _ a hb4 hbw4 S H
 refine list_box H rfl S rfl rfl ?_;clear H a S;intro b7 _ a hb7 hbw7 S H
 refine ls 1 H <| sr 1 rfl <| sE ?_;clear H a;intro a H
 refine k1 _ _ ?_;clear k1 K1
 refine sS H fun K2 k2=>sf fo_25_0 rfl <| sl S 1 one_3 rfl rfl rfl <| sl S 0 one_3 rfl rfl rfl <| sd (does_add rfl rfl (by unfold i64ok; omega)) <| sd ((does_mul rfl rfl (by rw [← hC2]; unfold i64ok; omega)).to (v' := .int .i64 ((P * (T + 1) : Nat) : Int)) (by rw [hC2])) <| sr 1 rfl <| sE ?_;clear H a;intro a H
 refine k2 _ ?_;clear k2 K2
 have SR := (S.sel [0, 1] rfl rfl)
 refine meet_sr (X := Nat × Nat × Option Addr) [1, 2, 4, 7] H rfl (fun ⟨b10, b31, EA⟩ => [(10, .pointer (some ⟨b10, 0, none⟩))]) (fun ⟨b10, b31, EA⟩ => [boxM b10 131 [.pointer (some ⟨b31, 0, none⟩)], boxM b31 157 [.int .i64 (P : Int), .slice PA ps.length pc, .slice XA xs.length xc, .int .i64 (T : Int), .slice EA ((P * (T + 1)) + 2) ((P * (T + 1)) + 2), .int .i64 (((P * (T + 1)) : Nat) : Int), .int .i64 (((P * (T + 1)) + 1 : Nat) : Int)], ownM 175 1 EA ((P * (T + 1)) + 2) ((P * (T + 1)) + 2) (hdc (fun _ => none) (tlen (joins [])) (fun _ => 0))]) (fun ⟨b10, b31, EA⟩ => True) SR (fun K3 k3 => ?_) ?_
 ·skip
  replace H := H.keep [1, 2, 4, 7, 9] rfl
  replace S := S.drew
  refine one_wt 999 (.q 0 (.q 1 (.q 2 (.q 3 (.q 5 (.q 6 (.q 7 (.b2 4 (.q 8 (.b2 9 (.e 10 (.e 11 .nil)) 10 (.e 9 (.e 11 .nil)))) 10 (.e 4 (.q 8 (.e 9 (.e 11 .nil)))))))))))) (by kernel_rfl) (by kernel_rfl) (S.sel [0, 1] rfl rfl) ?_
  refine wt_does H rfl rfl (fun _ S => (does_loadBox agg_25 sz_25 rfl S (i := 1) rfl rfl)) ?_;clear H a;intro a H
  refine wt_does H rfl rfl (fun _ S => does_load one_3 rfl (boxM.rd S (i := 0) rfl rfl)) ?_;clear H a;intro a H
  refine wt_does H rfl rfl (fun _ S => does_move rfl) ?_;clear H a;intro a H
  refine wt_does H rfl rfl (fun _ S => (does_add rfl rfl (by unfold i64ok; omega)).to (v' := .int .i64 ((P * (T + 1) + 2 : Nat) : Int)) rfl) ?_;clear H a;intro a H
  refine wt_does H rfl rfl (fun _ S => does_move rfl) ?_;clear H a;intro a H
  refine wt_does H rfl rfl (fun _ S => does_move rfl) ?_;clear H a;intro a H
  refine wt_does H rfl rfl (fun _ S => (does_add rfl rfl (by unfold i64ok; omega)).to (v' := .int .i64 ((P * (T + 1) + 1 : Nat) : Int)) rfl) ?_;clear H a;intro a H
  refine wt_b2 rfl rfl ?_ ?_
  ·skip
   refine list_make (n := P * (T + 1) + 2) H rfl S sl_155 sz_175 ze_175 by_175 rfl (by decide) rfl rfl (by omega) (by omega) ?_;clear H a S;intro A1 _ a hA1 S H
   replace S := S.recell (i := 0) rfl (cell' := hdc (fun _ => none) (tlen (joins [])) (fun _ => 0)) (fun k j _ hj => mk_hdc k j hj)
   refine wpList_nil (And.intro (Or.inr (S.sel [1, 2] rfl rfl)) ?_)
   refine wt_does H rfl rfl (fun _ S => does_build bt_157 rfl rfl) ?_;clear H a;intro a H
   refine wt_b2 rfl rfl ?_ ?_
   ·skip
    refine list_box H rfl S rfl rfl ?_;clear H a S;intro b31 _ a hb31 hbw31 S H
    refine wpList_nil (And.intro (Or.inr (S.sel [2, 3] rfl rfl)) ?_)
    refine wt_eff rfl ?_
    refine list_alloc H rfl S ze_131 ?_;clear H a S;intro b10 _ a hb10 hbw10 S H
    refine wpList_nil (And.intro (Or.inr (S.sel [3, 4] rfl rfl)) ?_)
    refine wt_eff rfl ?_
    refine list_store H S (i := 0) rfl rfl rfl rfl sz_131 rfl rfl ?_
    clear H a S;intro _ a S H
    refine wpList_nil (And.intro (Or.inr (S.sel [3, 4] rfl rfl)) ?_)
    refine wt_nil ?_
    exact k3 (b10, b31, _) a _ (trivial) (S.sel [0, 1, 2, 3, 4] rfl rfl) (H.keep [10, 1, 2, 4, 7] rfl)
   ·skip
    refine list_alloc H rfl S ze_131 ?_;clear H a S;intro b10 _ a hb10 hbw10 S H
    refine wpList_nil (And.intro (Or.inr (S.sel [2, 3] rfl rfl)) ?_)
    refine wt_eff rfl ?_
    refine list_box H rfl S rfl rfl ?_;clear H a S;intro b31 _ a hb31 hbw31 S H
    refine wpList_nil (And.intro (Or.inr (S.sel [3, 4] rfl rfl)) ?_)
    refine wt_eff rfl ?_
    refine list_store H S (i := 1) rfl rfl rfl rfl sz_131 rfl rfl ?_
    clear H a S;intro _ a S H
    refine wpList_nil (And.intro (Or.inr (S.sel [3, 4] rfl rfl)) ?_)
    refine wt_nil ?_
    exact k3 (b10, b31, _) a _ (trivial) (S.sel [1, 0, 2, 3, 4] rfl rfl) (H.keep [10, 1, 2, 4, 7] rfl)
  ·skip
   refine list_alloc H rfl S ze_131 ?_;clear H a S;intro b10 _ a hb10 hbw10 S H
   refine wpList_nil (And.intro (Or.inr (S.sel [1, 2] rfl rfl)) ?_)
   refine wt_eff rfl ?_
   refine list_make (n := P * (T + 1) + 2) H rfl S sl_155 sz_175 ze_175 by_175 rfl (by decide) rfl rfl (by omega) (by omega) ?_;clear H a S;intro A2 _ a hA2 S H
   replace S := S.recell (i := 0) rfl (cell' := hdc (fun _ => none) (tlen (joins [])) (fun _ => 0)) (fun k j _ hj => mk_hdc k j hj)
   refine wpList_nil (And.intro (Or.inr (S.sel [2, 3] rfl rfl)) ?_)
   refine wt_does H rfl rfl (fun _ S => does_build bt_157 rfl rfl) ?_;clear H a;intro a H
   refine wt_eff rfl ?_
   refine list_box H rfl S rfl rfl ?_;clear H a S;intro b31 _ a hb31 hbw31 S H
   refine wpList_nil (And.intro (Or.inr (S.sel [3, 4] rfl rfl)) ?_)
   refine wt_eff rfl ?_
   refine list_store H S (i := 2) rfl rfl rfl rfl sz_131 rfl rfl ?_
   clear H a S;intro _ a S H
   refine wpList_nil (And.intro (Or.inr (S.sel [3, 4] rfl rfl)) ?_)
   refine wt_nil ?_
   exact k3 (b10, b31, _) a _ (trivial) (S.sel [2, 0, 1, 3, 4] rfl rfl) (H.keep [10, 1, 2, 4, 7] rfl)
 clear SR H S a
 intro xm a wm hp S H
 obtain ⟨b10, b31, EA⟩ := xm
 replace H := H.keep [1, 2, 4, 7, 10] rfl
 refine seq_list fun K5 k5 => ?_
 refine ls 1 H <| sd (does_build bt_159 rfl rfl) <| sE ?_;clear H a;intro a H
 refine list_alloc H rfl S ze_159 ?_;clear H a S;intro b11 _ a hb11 hbw11 S H
 refine list_store H S (i := 0) rfl rfl rfl rfl sz_159 rfl rfl ?_
 clear H a S;intro _ a S H
 refine k5 _ _ ?_;clear k5 K5
 refine wp_seq_k fun K6 k6 => ?_
 refine sS H fun K7 k7=>sf fo_25_0 rfl <| sl S 5 one_3 rfl rfl rfl <| sr 1 rfl <| sE ?_;clear H a;intro a H
 refine k7 _ ?_;clear k7 K7
 refine wp_block ?_
 replace S := ragM.zero S 177 7 (fun q => q < P * (T + 1) + 2) (tcell (joins []))
 refine loop_st (X := Nat × (Nat → Option Addr) × (Nat → Nat)) (R0 := _) [1, 2, 4, 7, 10, 11, 34] H rfl (fun ⟨p, A', c'⟩ => [(35, .int .i64 (p : Int))]) (fun ⟨p, A', c'⟩ => [ownM 175 1 EA ((P * (T + 1)) + 2) ((P * (T + 1)) + 2) (hdc A' (tlen (joins (jPlaces P T pe xs p))) c'), ragM 177 7 (fun q => q < (P * (T + 1)) + 2) A' (tlen (joins (jPlaces P T pe xs p))) c' (tcell (joins (jPlaces P T pe xs p)))]) (fun g ⟨p, A', c'⟩ => p ≤ P ∧ g + p = P) (P) (0, _, _) ?_ (S.sel [4, 0, 1, 2, 3, 5, 6] rfl rfl) (H.keep [35, 1, 2, 4, 7, 10, 11, 34] rfl) ?_
 · exact ⟨by omega, by omega⟩
 clear H S a
 intro g1 x1 a w1 hp S H K8 k8
 obtain ⟨p, A', c'⟩ := x1
 dsimp only at hp S H
 refine sS H fun K9 k9=>sr 1 rfl <| sE ?_;clear H a;intro a H
 refine k9 _ ?_;clear k9 K9
 refine wp_seq_k fun K10 k10 => ?_
 refine condL H rfl (fun hc1 => ?_) (fun hc1 => ?_)
 ·skip
  refine wp_skip ?_
  refine k10 _ _ ?_
  refine wp_seq_k fun K11 k11 => ?_
  refine wp_block ?_
  refine sS H fun K12 k12=>sr 2 rfl <| sE ?_;clear H a;intro a H
  refine k12 _ ?_;clear k12 K12
  have hpP : p < P := by omega
  have hb1 : p * (2 * T + 2) ≤ 10 * 122 := Nat.mul_le_mul (by omega) (by omega)
  have hG := JG.places (T := T) (pe := pe) (xs := xs) (Nat.le_of_lt hpP)
  have hlen9 := hG.len (by omega)
  replace H := H.keep [1, 2, 4, 7, 10, 11, 12, 34, 35] rfl
  replace S := S.drew
  refine seq_wq [(0, true), (1, true), (2, true), (3, true), (4, true), (5, true), (6, true), (8, true), (9, true), (10, true), (11, true), (12, true), (7, false), (13, false)] (by kernel_rfl) (by kernel_rfl) (S.sel [2, 3, 4, 5, 6] rfl rfl) fun K13 k13 => ?_
  refine qF H <| qd rfl (fun _ S => does_load one_131 rfl (boxM.rd S (i := 1) rfl rfl)) <| qd rfl (fun _ S => does_load one_131 rfl (boxM.rd S (i := 1) rfl rfl)) <| qr 1 rfl <| qd rfl (fun _ S => (does_field fo_157_3 rfl)) <| qd rfl (fun _ S => does_load one_3 rfl (boxM.rd S (i := 2) rfl rfl)) <| qd rfl (fun _ S => does_load one_131 rfl (boxM.rd S (i := 1) rfl rfl)) <| qr 3 rfl <| qd rfl (fun _ S => does_indexN sl_23 sz_3 rfl rfl (hpe.adr (by omega)) (by omega)) <| qd rfl (fun _ S => does_load one_3 rfl (hpe.rd S (by omega) (by omega))) <| qd rfl (fun _ S => (does_loadBox agg_159 sz_159 rfl S (i := 0) rfl rfl)) <| qK ?_;clear H a;intro a H
  refine wq_eff rfl ?_
  have S1 := (S.sel [4] rfl rfl)
  refine list_call H rfl rfl Try.func89 rfl rfl (net_nodeN P T ps PA pc xs XA xc b31 EA p 0 _ _ S1.startR (by omega) (by omega) (by omega)) ?_;clear H a
  rintro _ _ a ⟨rfl, S2⟩ H
  replace S := (S.sel [4, 0, 1, 2, 3, 5, 6] rfl rfl).callR (M := [_]) S2; clear S1 S2
  refine wpList_nil (And.intro (S.sel [3, 4, 0, 5, 6] rfl rfl) ?_)
  refine wq_eff rfl ?_
  have S1 := (S.sel [0, 1, 2] rfl rfl)
  refine list_call H rfl rfl Try.func88 rfl rfl (net_join (joins (jPlaces P T pe xs p)) ((P * (T + 1)) + 2) b31 (P : Int) (T : Int) _ _ EA A' c' (P * (T + 1)) ((P * (T + 1)) + 1) (P * (T + 1)) (nd P 0 p) (pe.getD p 0) (-1) 0 0 0 _ _ S1.startR ((jBeg_ok (T := T) (pe := pe) hpP)).2.1 ((jBeg_ok (T := T) (pe := pe) hpP)).2.2 ((jBeg_ok (T := T) (pe := pe) hpP)).1 hlen9) ?_;clear H a
  rintro _ _ a ⟨rfl, A2, c2, S2⟩ H
  replace S := (S.sel [0, 1, 2, 3, 4, 5, 6] rfl rfl).callR (M := [_, _, _]) S2; clear S1 S2
  have e9 : joinT (joins (jPlaces P T pe xs p)) (P * (T + 1)) (nd P 0 p) (pe.getD p 0) ⟨-1, 0, 0, 0⟩ = joins ((jPlaces P T pe xs p) ++ [jBeg P T pe p]) := (joins_snoc (jPlaces P T pe xs p) (jBeg P T pe p)).symm
  rw [e9] at S
  refine wpList_nil (And.intro (S.sel [3, 4, 0, 5, 6] rfl rfl) ?_)
  refine wq_nil ?_
  refine k13 _ _ ?_
  clear k13 K13
  refine wp_seq_k fun K14 k14 => ?_
  replace H := H.keep [1, 2, 4, 7, 10, 11, 12, 34, 35] rfl
  refine sS H fun K15 k15=>sl S 5 one_3 rfl rfl rfl <| sr 1 rfl <| sE ?_;clear H a;intro a H
  refine k15 _ ?_;clear k15 K15
  refine wp_block ?_
  refine loop_st (X := Nat × (Nat → Option Addr) × (Nat → Nat)) (R0 := _) [1, 2, 4, 7, 10, 11, 12, 34, 35, 52] H rfl (fun ⟨t, A', c'⟩ => [(53, .int .i64 (t : Int))]) (fun ⟨t, A', c'⟩ => [ownM 175 1 EA ((P * (T + 1)) + 2) ((P * (T + 1)) + 2) (hdc A' (tlen (joins ((jPlaces P T pe xs p) ++ (jBeg P T pe p :: jWaits P p t)))) c'), ragM 177 7 (fun q => q < (P * (T + 1)) + 2) A' (tlen (joins ((jPlaces P T pe xs p) ++ (jBeg P T pe p :: jWaits P p t)))) c' (tcell (joins ((jPlaces P T pe xs p) ++ (jBeg P T pe p :: jWaits P p t))))]) (fun g ⟨t, A', c'⟩ => t ≤ T ∧ g + t = T ∧ JG P T ((jPlaces P T pe xs p) ++ (jBeg P T pe p :: jWaits P p t)) (p * (2 * T + 2) + 1 + t)) (T) (0, _, _) ?_ (S.sel [1, 2, 0, 3, 4, 5, 6] rfl rfl) (H.keep [53, 1, 2, 4, 7, 10, 11, 12, 34, 35, 52] rfl) ?_
  · exact ⟨by omega, by omega, hG.snoc (jBeg_ok hpP)⟩
  clear H S a
  intro g2 x2 a w2 hp S H K16 k16
  obtain ⟨t, A', c'⟩ := x2
  dsimp only at hp S H
  obtain ⟨htl, hgt, hG2⟩ := hp
  refine sS H fun K17 k17=>sr 1 rfl <| sE ?_;clear H a;intro a H
  refine k17 _ ?_;clear k17 K17
  refine wp_seq_k fun K18 k18 => ?_
  refine condL H rfl (fun hc2 => ?_) (fun hc2 => ?_)
  ·skip
   refine wp_skip ?_
   refine k18 _ _ ?_
   refine wp_seq_k fun K19 k19 => ?_
   refine wp_block ?_
   refine sS H fun K20 k20=>sr 2 rfl <| sE ?_;clear H a;intro a H
   refine k20 _ ?_;clear k20 K20
   have htT : t < T := by omega
   have hlen9 := hG2.len (by omega)
   replace H := H.keep [1, 2, 4, 7, 10, 11, 12, 13, 34, 35, 52, 53] rfl
   replace S := S.drew
   refine one_wq [(0, true), (1, true), (2, true), (3, true), (5, true), (6, true), (7, true), (8, true), (10, true), (4, false), (9, false), (11, false)] (by kernel_rfl) (by kernel_rfl) (S.sel [2, 3, 4, 5, 6] rfl rfl) ?_
   refine qF H <| qd rfl (fun _ S => does_load one_131 rfl (boxM.rd S (i := 2) rfl rfl)) <| qd rfl (fun _ S => does_load one_131 rfl (boxM.rd S (i := 2) rfl rfl)) <| qr 2 rfl <| qd rfl (fun _ S => does_load one_131 rfl (boxM.rd S (i := 2) rfl rfl)) <| qr 2 rfl <| qd rfl (fun _ S => does_add rfl rfl (by unfold i64ok; omega)) <| qd rfl (fun _ S => (does_loadBox agg_159 sz_159 rfl S (i := 1) rfl rfl)) <| qK ?_;clear H a;intro a H
   refine wq_eff rfl ?_
   have S1 := (S.sel [2] rfl rfl)
   refine list_call H rfl rfl Try.func89 rfl rfl (net_nodeN P T ps PA pc xs XA xc b31 EA p t _ _ S1.startR (by omega) (by omega) (by omega)) ?_;clear H a
   rintro _ _ a ⟨rfl, S2⟩ H
   replace S := (S.sel [2, 0, 1, 3, 4, 5, 6] rfl rfl).callR (M := [_]) S2; clear S1 S2
   refine wpList_nil (And.intro (S.sel [0, 3, 4, 5, 6] rfl rfl) ?_)
   refine wq_eff rfl ?_
   have S1 := (S.sel [0] rfl rfl)
   refine list_call H rfl rfl Try.func89 rfl rfl (net_nodeN P T ps PA pc xs XA xc b31 EA p (t + 1) _ _ S1.startR (by omega) (by omega) (by omega)) ?_;clear H a
   rintro _ _ a ⟨rfl, S2⟩ H
   replace S := (S.sel [0, 1, 2, 3, 4, 5, 6] rfl rfl).callR (M := [_]) S2; clear S1 S2
   refine wpList_nil (And.intro (S.sel [0, 3, 4, 5, 6] rfl rfl) ?_)
   refine wq_eff rfl ?_
   have S1 := (S.sel [0, 1, 2] rfl rfl)
   refine list_call H rfl rfl Try.func88 rfl rfl (net_join (joins ((jPlaces P T pe xs p) ++ (jBeg P T pe p :: jWaits P p t))) ((P * (T + 1)) + 2) b31 (P : Int) (T : Int) _ _ EA A' c' (P * (T + 1)) ((P * (T + 1)) + 1) (nd P t p) (nd P (t + 1) p) 1099511627776 (-1) 0 0 0 _ _ S1.startR ((jWait_ok hpP htT)).2.1 ((jWait_ok hpP htT)).2.2 ((jWait_ok hpP htT)).1 hlen9) ?_;clear H a
   rintro _ _ a ⟨rfl, A2, c2, S2⟩ H
   replace S := (S.sel [0, 1, 2, 3, 4, 5, 6] rfl rfl).callR (M := [_, _, _]) S2; clear S1 S2
   have e9 : joinT (joins ((jPlaces P T pe xs p) ++ (jBeg P T pe p :: jWaits P p t))) (nd P t p) (nd P (t + 1) p) 1099511627776 ⟨-1, 0, 0, 0⟩ = joins (((jPlaces P T pe xs p) ++ (jBeg P T pe p :: jWaits P p t)) ++ [jWait P p t]) := (joins_snoc ((jPlaces P T pe xs p) ++ (jBeg P T pe p :: jWaits P p t)) (jWait P p t)).symm
   rw [e9] at S
   refine wpList_nil (And.intro (S.sel [0, 3, 4, 5, 6] rfl rfl) ?_)
   refine wq_nil ?_
   refine k19 _ _ ?_
   replace H := H.keep [1, 2, 4, 7, 10, 11, 12, 34, 35, 52, 53] rfl
   refine sO H <| sd (does_add rfl rfl (by unfold i64ok; omega)) <| sr 1 rfl <| sE ?_;clear H a;intro a H
   rw [← waits_snoc] at S
   exact k16 (g2 - 1) (t + 1, _, _) a _ (by omega) (⟨by omega, by omega, by rw [waits_snoc]; exact hG2.snoc (jWait_ok hpP htT)⟩) (S.sel [1, 2, 0, 3, 4, 5, 6] rfl rfl) (H.keep [53, 1, 2, 4, 7, 10, 11, 12, 34, 35, 52] rfl)
  refine wp_exit ?_
  refine k14 _ _ ?_
  refine seq_list fun K23 k23 => ?_
  refine ls 3 H <| sf fo_25_2 rfl <| sl S 6 one_23 rfl rfl rfl <| sr 1 rfl <| sE ?_;clear H a;intro a H
  refine list_call H rfl rfl Try.func90 rfl rfl (slices_Contains xs XA xc _ _ (hxs.now S) hxn) ?_;clear H a
  rintro _ _ a ⟨rfl, S2⟩ H
  replace S := S.call S2;clear S2
  refine k23 _ _ ?_;clear k23 K23
  refine cond_ H rfl (fun hc3 => ?_) (fun hc3 => ?_)
  ·skip
   try simp only [o1,o2,o3,o4,o5,o6,o7,o8,o9,oa] at hc3
   have hTt : t = T := by omega
   rw [hTt] at S hG2
   rw [exits0] at S
   refine sS H fun K24 k24=>sl S 5 one_3 rfl rfl rfl <| sd (does_add rfl rfl (by unfold i64ok; omega)) <| sr 1 rfl <| sE ?_;clear H a;intro a H
   refine k24 _ ?_;clear k24 K24
   refine wp_block ?_
   refine loop_st (X := Nat × (Nat → Option Addr) × (Nat → Nat)) (R0 := _) [1, 2, 4, 7, 10, 11, 12, 34, 35, 74] H rfl (fun ⟨t, A', c'⟩ => [(75, .int .i64 (t : Int))]) (fun ⟨t, A', c'⟩ => [ownM 175 1 EA ((P * (T + 1)) + 2) ((P * (T + 1)) + 2) (hdc A' (tlen (joins ((jPlaces P T pe xs p) ++ (jBeg P T pe p :: (jWaits P p T ++ jExits P T p t))))) c'), ragM 177 7 (fun q => q < (P * (T + 1)) + 2) A' (tlen (joins ((jPlaces P T pe xs p) ++ (jBeg P T pe p :: (jWaits P p T ++ jExits P T p t))))) c' (tcell (joins ((jPlaces P T pe xs p) ++ (jBeg P T pe p :: (jWaits P p T ++ jExits P T p t)))))]) (fun g ⟨t, A', c'⟩ => t ≤ T + 1 ∧ g + t = T + 1 ∧ JG P T ((jPlaces P T pe xs p) ++ (jBeg P T pe p :: (jWaits P p T ++ jExits P T p t))) (p * (2 * T + 2) + 1 + T + t)) (T + 1) (0, _, _) ?_ (S.sel [0, 1, 2, 3, 4, 5, 6] rfl rfl) (H.keep [75, 1, 2, 4, 7, 10, 11, 12, 34, 35, 74] rfl) ?_
   · exact ⟨by omega, by omega, by rw [← exits0]; exact hG2⟩
   clear H S a
   intro g3 x3 a w3 hp S H K25 k25
   obtain ⟨t, A', c'⟩ := x3
   dsimp only at hp S H
   obtain ⟨htl, hgt, hG2⟩ := hp
   refine sS H fun K26 k26=>sr 1 rfl <| sE ?_;clear H a;intro a H
   refine k26 _ ?_;clear k26 K26
   refine wp_seq_k fun K27 k27 => ?_
   refine condL H rfl (fun hc4 => ?_) (fun hc4 => ?_)
   ·skip
    refine wp_skip ?_
    refine k27 _ _ ?_
    refine wp_seq_k fun K28 k28 => ?_
    refine wp_block ?_
    refine sS H fun K29 k29=>sr 2 rfl <| sE ?_;clear H a;intro a H
    refine k29 _ ?_;clear k29 K29
    have htT : t ≤ T := by omega
    have hlen9 := hG2.len (by omega)
    replace H := H.keep [1, 2, 4, 7, 10, 11, 12, 14, 34, 35, 74, 75] rfl
    replace S := S.drew
    refine one_wq [(0, true), (1, true), (2, true), (3, true), (5, true), (6, true), (7, true), (8, true), (9, true), (4, false), (10, false)] (by kernel_rfl) (by kernel_rfl) (S.sel [2, 3, 4, 5, 6] rfl rfl) ?_
    refine qF H <| qd rfl (fun _ S => does_load one_131 rfl (boxM.rd S (i := 2) rfl rfl)) <| qd rfl (fun _ S => does_load one_131 rfl (boxM.rd S (i := 2) rfl rfl)) <| qr 2 rfl <| qd rfl (fun _ S => does_load one_131 rfl (boxM.rd S (i := 2) rfl rfl)) <| qr 1 rfl <| qd rfl (fun _ S => (does_field fo_157_4 rfl)) <| qd rfl (fun _ S => does_load one_3 rfl (boxM.rd S (i := 0) rfl rfl)) <| qd rfl (fun _ S => (does_loadBox agg_159 sz_159 rfl S (i := 1) rfl rfl)) <| qK ?_;clear H a;intro a H
    refine wq_eff rfl ?_
    have S1 := (S.sel [2] rfl rfl)
    refine list_call H rfl rfl Try.func89 rfl rfl (net_nodeN P T ps PA pc xs XA xc b31 EA p t _ _ S1.startR (by omega) (by omega) (by omega)) ?_;clear H a
    rintro _ _ a ⟨rfl, S2⟩ H
    replace S := (S.sel [2, 0, 1, 3, 4, 5, 6] rfl rfl).callR (M := [_]) S2; clear S1 S2
    refine wpList_nil (And.intro (S.sel [0, 3, 4, 5, 6] rfl rfl) ?_)
    refine wq_eff rfl ?_
    have S1 := (S.sel [0, 1, 2] rfl rfl)
    refine list_call H rfl rfl Try.func88 rfl rfl (net_join (joins ((jPlaces P T pe xs p) ++ (jBeg P T pe p :: (jWaits P p T ++ jExits P T p t)))) ((P * (T + 1)) + 2) b31 (P : Int) (T : Int) _ _ EA A' c' (P * (T + 1)) ((P * (T + 1)) + 1) (nd P t p) ((P * (T + 1)) + 1) 1099511627776 (-1) 0 0 0 _ _ S1.startR ((jExit_ok hpP htT)).2.1 ((jExit_ok hpP htT)).2.2 ((jExit_ok hpP htT)).1 hlen9) ?_;clear H a
    rintro _ _ a ⟨rfl, A2, c2, S2⟩ H
    replace S := (S.sel [0, 1, 2, 3, 4, 5, 6] rfl rfl).callR (M := [_, _, _]) S2; clear S1 S2
    have e9 : joinT (joins ((jPlaces P T pe xs p) ++ (jBeg P T pe p :: (jWaits P p T ++ jExits P T p t)))) (nd P t p) ((P * (T + 1)) + 1) 1099511627776 ⟨-1, 0, 0, 0⟩ = joins (((jPlaces P T pe xs p) ++ (jBeg P T pe p :: (jWaits P p T ++ jExits P T p t))) ++ [jExit P T p t]) := (joins_snoc ((jPlaces P T pe xs p) ++ (jBeg P T pe p :: (jWaits P p T ++ jExits P T p t))) (jExit P T p t)).symm
    rw [e9] at S
    refine wpList_nil (And.intro (S.sel [0, 3, 4, 5, 6] rfl rfl) ?_)
    refine wq_nil ?_
    refine k28 _ _ ?_
    replace H := H.keep [1, 2, 4, 7, 10, 11, 12, 34, 35, 74, 75] rfl
    refine sO H <| sd (does_add rfl rfl (by unfold i64ok; omega)) <| sr 1 rfl <| sE ?_;clear H a;intro a H
    rw [← exits_snoc] at S
    exact k25 (g3 - 1) (t + 1, _, _) a _ (by omega) (⟨by omega, by omega, by rw [exits_snoc]; exact hG2.snoc (jExit_ok hpP htT)⟩) (S.sel [1, 2, 0, 3, 4, 5, 6] rfl rfl) (H.keep [75, 1, 2, 4, 7, 10, 11, 12, 34, 35, 74] rfl)
   refine wp_exit ?_
   refine k11 _ _ ?_
   refine sO H <| sd (does_add rfl rfl (by unfold i64ok; omega)) <| sr 1 rfl <| sE ?_;clear H a;intro a H
   first | (rw [show t = T + 1 by omega, place_yes hc3] at S) | skip
   exact k8 (g1 - 1) (p + 1, _, _) a _ (by omega) (⟨by omega, by omega⟩) (S.sel [0, 1, 3, 4, 2, 5, 6] rfl rfl) (H.keep [35, 1, 2, 4, 7, 10, 11, 34] rfl)
  try simp only [o1,o2,o3,o4,o5,o6,o7,o8,o9,oa] at hc3
  have hTt : t = T := by omega
  rw [hTt] at S
  rw [place_no hc3] at S
  refine wp_skip ?_
  refine k11 _ _ ?_
  refine sO H <| sd (does_add rfl rfl (by unfold i64ok; omega)) <| sr 1 rfl <| sE ?_;clear H a;intro a H
  first | (rw [show t = T + 1 by omega, place_yes hc3] at S) | skip
  exact k8 (g1 - 1) (p + 1, _, _) a _ (by omega) (⟨by omega, by omega⟩) (S.sel [0, 1, 3, 4, 2, 5, 6] rfl rfl) (H.keep [35, 1, 2, 4, 7, 10, 11, 34] rfl)
 refine wp_exit ?_
 refine k6 _ _ ?_
 refine wp_seq_k fun K34 k34 => ?_
 refine seq_list fun K35 k35 => ?_
 refine ls 2 H <| sd ((does_loadBox agg_25 sz_25 rfl S (i := 6) rfl rfl)) <| sr 1 rfl <| sE ?_;clear H a;intro a H
 refine list_call H rfl rfl Try.func91 rfl rfl (ways_headings (P : Int) ps PA pc xs XA xc out _) ?_;clear H a
 rintro _ _ a ⟨b2, b3, rfl, S2⟩ H
 replace S := S.call S2;clear S2
 refine k35 _ _ ?_;clear k35 K35
 refine wp_block ?_
 replace H := H.keep [7, 10, 93] rfl
 have hpP : p = P := by omega
 rw [hpP] at S
 rw [heads0 (P := P) (T := T) (hs := hds out xs ps) (A := jPlaces P T pe xs P)] at S
 have SB := St.pack (Ms := [_, _, _, _, _]) (R := [_, _, _, _]) (S.sel [7, 5, 6, 2, 3, 0, 1, 4, 8] rfl rfl)
 refine range_st (cnt := (hds out xs ps).length) H SB rfl Try.func104 rfl rfl rfl rfl rfl ze_165 (fun i => Hd.cells ((hds out xs ps).getD i Hd.zero)) (fun _ => rfl) sz_165 (fun _ => rfl) (fun i M => ∃ A' c', M = bun [boxM b7 3 [.int .i64 (T : Int)], boxM b10 131 [.pointer (some ⟨b31, 0, none⟩)], boxM b31 157 [.int .i64 (P : Int), .slice PA ps.length pc, .slice XA xs.length xc, .int .i64 (T : Int), .slice EA ((P * (T + 1)) + 2) ((P * (T + 1)) + 2), .int .i64 (((P * (T + 1)) : Nat) : Int), .int .i64 (((P * (T + 1)) + 1 : Nat) : Int)], ownM 175 1 EA ((P * (T + 1)) + 2) ((P * (T + 1)) + 2) (hdc A' (tlen (joins (jPlaces P T pe xs P ++ jHeads P T (hds out xs ps) i))) c'), ragM 177 7 (fun q => q < (P * (T + 1)) + 2) A' (tlen (joins (jPlaces P T pe xs P ++ jHeads P T (hds out xs ps) i))) c' (tcell (joins (jPlaces P T pe xs P ++ jHeads P T (hds out xs ps) i)))]) (⟨_, _, rfl⟩) (fun _ _ => True) ?_ ?_ ?_
 ·intro ly Jm M w9 hJ9 S hr9
  have S1 := (S.sel [0, 1, 2] rfl rfl)
  refine w8ret_imp (heads_iter (P : Int) ps PA pc xs XA xc out b2 b3 ly Jm M w9 _ hJ9 S1.startR (hps.nowR S1) hpn (hxs.nowR S1) hxn hmv hout (fun i m' x w1 hi hJ SX => hr9 i m' x _ _ w1 hi hJ trivial SX)) ?_
  rintro _ _ ⟨m', hJ', S2⟩
  exact ⟨m', hJ', ((S.sel [0, 1, 2, 3, 4] rfl rfl).callR (M := [_, _, _]) S2).sel [0, 1, 2, 3, 4] rfl rfl⟩
 ·intro ly i m9 x9 w00 F00 w9 a b15 hi9 hJ9 hIn9 S H
  obtain ⟨A', c', rfl⟩ := hJ9
  have hH9 := hhd i hi9
  unfold HdOk at hH9
  have hcn := hds_le (out := out) (xs := xs) (ps := ps) ps.length
  have hb2 : i * (T + 1) ≤ 48 * 61 := Nat.mul_le_mul (by unfold hds at hi9; omega) (by omega)
  have hb3 : P * (2 * T + 2) ≤ 10 * 122 := Nat.mul_le_mul (by omega) (by omega)
  replace S := St.unpack (S.sel [1, 0, 2] rfl rfl)
  refine Rd.wp_block ?_
  refine Rd.sS H fun K36 k36=>sr 1 rfl <| sE ?_;clear H a;intro a H
  refine k36 _ ?_;clear k36 K36
  refine Rd.wp_block ?_
  rw [headn0 (P := P) (h := ((hds out xs ps).getD i Hd.zero)) (A := (jPlaces P T pe xs P ++ jHeads P T (hds out xs ps) i))] at S
  refine Rd.loop_st (X := Nat × (Nat → Option Addr) × (Nat → Nat)) (R0 := _) [7, 10, 15] H rfl (fun ⟨t, A', c'⟩ => [(16, .int .i64 (t : Int))]) (fun ⟨t, A', c'⟩ => [ownM 175 1 EA ((P * (T + 1)) + 2) ((P * (T + 1)) + 2) (hdc A' (tlen (joins ((jPlaces P T pe xs P ++ jHeads P T (hds out xs ps) i) ++ jHeadN P ((hds out xs ps).getD i Hd.zero) t))) c'), ragM 177 7 (fun q => q < (P * (T + 1)) + 2) A' (tlen (joins ((jPlaces P T pe xs P ++ jHeads P T (hds out xs ps) i) ++ jHeadN P ((hds out xs ps).getD i Hd.zero) t))) c' (tcell (joins ((jPlaces P T pe xs P ++ jHeads P T (hds out xs ps) i) ++ jHeadN P ((hds out xs ps).getD i Hd.zero) t)))]) (fun g ⟨t, A', c'⟩ => t ≤ T + 1 - ((hds out xs ps).getD i Hd.zero).ticks.toNat ∧ g + t = T + 1 - ((hds out xs ps).getD i Hd.zero).ticks.toNat ∧ JG P T ((jPlaces P T pe xs P ++ jHeads P T (hds out xs ps) i) ++ jHeadN P ((hds out xs ps).getD i Hd.zero) t) (P * (2 * T + 2) + i * (T + 1) + t)) (T + 1 - ((hds out xs ps).getD i Hd.zero).ticks.toNat) (0, _, _) ?_ (S.sel [3, 4, 0, 1, 2, 5, 6] rfl rfl) (H.keep [16, 7, 10, 15] rfl) ?_
  · exact ⟨by omega, by omega, by rw [← headn0]; exact ⟨fun j hj => (List.mem_append.1 hj).elim (fun h => jPlaces_ok (Nat.le_refl _) j h) (fun h => jHeads_ok hhd (Nat.le_of_lt hi9) j h), by rw [List.length_append, Nat.add_zero]; exact Nat.add_le_add (jPlaces_len P) (jHeads_len i)⟩⟩
  clear H S a
  intro g4 x4 a w4 hp S H K37 k37
  obtain ⟨t, A', c'⟩ := x4
  dsimp only at hp S H
  obtain ⟨htl, hgt, hG2⟩ := hp
  refine Rd.wp_seq_k fun K38 k38 => ?_
  refine Rd.sS H fun K39 k39=>sr 1 rfl <| sf fo_165_3 rfl <| sl S 5 one_3 rfl rfl rfl <| sd (does_add rfl rfl (by unfold i64ok; omega)) <| sl S 2 one_3 rfl rfl rfl <| sr 1 rfl <| sE ?_;clear H a;intro a H
  refine k39 _ ?_;clear k39 K39
  refine Rd.condG H rfl (fun hc5 => ?_) (fun hc5 => ?_)
  ·skip
   refine Rd.wp_skip ?_
   refine k38 _ _ ?_
   refine Rd.wp_seq_k fun K40 k40 => ?_
   refine Rd.wp_block ?_
   have htT : t + ((hds out xs ps).getD i Hd.zero).ticks.toNat ≤ T := by omega
   have hlen9 := hG2.len (by omega)
   replace H := H.keep [7, 10, 15, 16] rfl
   replace S := S.drew
   refine Rd.one_wq [(0, true), (1, true), (2, true), (3, true), (4, true), (6, true), (7, true), (8, true), (9, true), (10, true), (11, true), (12, true), (14, true), (15, true), (16, true), (17, true), (18, true), (19, true), (20, true), (21, true), (5, false), (13, false), (22, false)] (by kernel_rfl) (by kernel_rfl) (S.sel [2, 3, 4, 5, 6] rfl rfl) ?_
   refine qF H <| qd rfl (fun _ S => does_load one_131 rfl (boxM.rd S (i := 1) rfl rfl)) <| qd rfl (fun _ S => does_load one_131 rfl (boxM.rd S (i := 1) rfl rfl)) <| qd rfl (fun _ S => (does_field fo_165_1 rfl)) <| qd rfl (fun _ S => does_load one_3 rfl (boxM.rd S (i := 3) rfl rfl)) <| qr 1 rfl <| qd rfl (fun _ S => does_load one_131 rfl (boxM.rd S (i := 1) rfl rfl)) <| qd rfl (fun _ S => (does_field fo_165_2 rfl)) <| qd rfl (fun _ S => does_load one_3 rfl (boxM.rd S (i := 3) rfl rfl)) <| qr 1 rfl <| qd rfl (fun _ S => (does_field fo_165_3 rfl)) <| qd rfl (fun _ S => does_load one_3 rfl (boxM.rd S (i := 3) rfl rfl)) <| qd rfl (fun _ S => (does_add rfl rfl (by unfold i64ok; omega)).to (v' := .int .i64 ((t + ((hds out xs ps).getD i Hd.zero).ticks.toNat : Nat) : Int)) (by congr 1; omega)) <| qd rfl (fun _ S => (does_field fo_165_4 rfl)) <| qd rfl (fun _ S => does_load one_3 rfl (boxM.rd S (i := 3) rfl rfl)) <| qd rfl (fun _ S => (does_field fo_165_0 rfl)) <| qd rfl (fun _ S => does_load one_3 rfl (boxM.rd S (i := 3) rfl rfl)) <| qd rfl (fun _ S => (does_field fo_165_1 rfl)) <| qd rfl (fun _ S => does_load one_3 rfl (boxM.rd S (i := 3) rfl rfl)) <| qr 1 rfl <| qd rfl (fun _ S => does_build bt_159 rfl rfl) <| qK ?_;clear H a;intro a H
   refine wq_eff rfl ?_
   have S1 := (S.sel [4] rfl rfl)
   refine list_call H rfl rfl Try.func89 rfl rfl (net_nodeI P T ps PA pc xs XA xc b31 EA ((hds out xs ps).getD i Hd.zero).fr t _ _ S1.startR (by omega) (by omega) (by omega)) ?_;clear H a
   rintro _ _ a ⟨rfl, S2⟩ H
   replace S := (S.sel [4, 0, 1, 2, 3, 5, 6] rfl rfl).callR (M := [_]) S2; clear S1 S2
   refine wpList_nil (And.intro (S.sel [3, 4, 0, 5, 6] rfl rfl) ?_)
   refine wq_eff rfl ?_
   have S1 := (S.sel [0] rfl rfl)
   refine list_call H rfl rfl Try.func89 rfl rfl (net_nodeI P T ps PA pc xs XA xc b31 EA ((hds out xs ps).getD i Hd.zero).to (t + ((hds out xs ps).getD i Hd.zero).ticks.toNat) _ _ S1.startR (by omega) (by omega) (by omega)) ?_;clear H a
   rintro _ _ a ⟨rfl, S2⟩ H
   replace S := (S.sel [0, 1, 2, 3, 4, 5, 6] rfl rfl).callR (M := [_]) S2; clear S1 S2
   refine wpList_nil (And.intro (S.sel [3, 4, 0, 5, 6] rfl rfl) ?_)
   refine wq_eff rfl ?_
   have S1 := (S.sel [0, 1, 2] rfl rfl)
   refine list_call H rfl rfl Try.func88 rfl rfl (net_join (joins ((jPlaces P T pe xs P ++ jHeads P T (hds out xs ps) i) ++ jHeadN P ((hds out xs ps).getD i Hd.zero) t)) ((P * (T + 1)) + 2) b31 (P : Int) (T : Int) _ _ EA A' c' (P * (T + 1)) ((P * (T + 1)) + 1) (nd P t ((hds out xs ps).getD i Hd.zero).fr.toNat) (nd P (t + ((hds out xs ps).getD i Hd.zero).ticks.toNat) ((hds out xs ps).getD i Hd.zero).to.toNat) ((hds out xs ps).getD i Hd.zero).wide ((hds out xs ps).getD i Hd.zero).pas ((hds out xs ps).getD i Hd.zero).fr (t : Int) 0 _ _ S1.startR ((jHead_ok (T := T) (show ((hds out xs ps).getD i Hd.zero).fr.toNat < P by omega) (show ((hds out xs ps).getD i Hd.zero).to.toNat < P by omega) (show 1 ≤ ((hds out xs ps).getD i Hd.zero).ticks.toNat by omega) htT)).2.1 ((jHead_ok (T := T) (show ((hds out xs ps).getD i Hd.zero).fr.toNat < P by omega) (show ((hds out xs ps).getD i Hd.zero).to.toNat < P by omega) (show 1 ≤ ((hds out xs ps).getD i Hd.zero).ticks.toNat by omega) htT)).2.2 ((jHead_ok (T := T) (show ((hds out xs ps).getD i Hd.zero).fr.toNat < P by omega) (show ((hds out xs ps).getD i Hd.zero).to.toNat < P by omega) (show 1 ≤ ((hds out xs ps).getD i Hd.zero).ticks.toNat by omega) htT)).1 hlen9) ?_;clear H a
   rintro _ _ a ⟨rfl, A2, c2, S2⟩ H
   replace S := (S.sel [0, 1, 2, 3, 4, 5, 6] rfl rfl).callR (M := [_, _, _]) S2; clear S1 S2
   have e9 : joinT (joins ((jPlaces P T pe xs P ++ jHeads P T (hds out xs ps) i) ++ jHeadN P ((hds out xs ps).getD i Hd.zero) t)) (nd P t ((hds out xs ps).getD i Hd.zero).fr.toNat) (nd P (t + ((hds out xs ps).getD i Hd.zero).ticks.toNat) ((hds out xs ps).getD i Hd.zero).to.toNat) ((hds out xs ps).getD i Hd.zero).wide ⟨((hds out xs ps).getD i Hd.zero).pas, ((hds out xs ps).getD i Hd.zero).fr, (t : Int), 0⟩ = joins (((jPlaces P T pe xs P ++ jHeads P T (hds out xs ps) i) ++ jHeadN P ((hds out xs ps).getD i Hd.zero) t) ++ [jHead P ((hds out xs ps).getD i Hd.zero) t]) := (joins_snoc ((jPlaces P T pe xs P ++ jHeads P T (hds out xs ps) i) ++ jHeadN P ((hds out xs ps).getD i Hd.zero) t) (jHead P ((hds out xs ps).getD i Hd.zero) t)).symm
   rw [e9] at S
   refine wpList_nil (And.intro (S.sel [3, 4, 0, 5, 6] rfl rfl) ?_)
   refine wq_nil ?_
   refine k40 _ _ ?_
   replace H := H.keep [7, 10, 15, 16] rfl
   refine Rd.sO H <| sr 1 rfl <| sd (does_add rfl rfl (by unfold i64ok; omega)) <| sr 1 rfl <| sE ?_;clear H a;intro a H
   rw [← heads_snoc] at S
   exact k37 (g4 - 1) (t + 1, _, _) a _ (by omega) (⟨by omega, by omega, by rw [heads_snoc]; exact hG2.snoc (jHead_ok (by omega) (by omega) (by omega) (by omega))⟩) (S.sel [1, 2, 3, 4, 0, 5, 6] rfl rfl) (H.keep [16, 7, 10, 15] rfl)
  refine Rd.wp_exit ?_
  rw [show t = T + 1 - ((hds out xs ps).getD i Hd.zero).ticks.toNat by omega, List.append_assoc] at S
  exact ⟨_, ⟨_, _, rfl⟩, St.pack (Ms := [_, _, _, _, _]) (R := [_]) (S.sel [2, 3, 4, 0, 1, 6] rfl rfl)⟩
 intro D m9 w9 a hJ9 S H
 obtain ⟨A', c', rfl⟩ := hJ9
 replace S := St.unpack (S.sel [1, 0, 2, 3, 4, 5] rfl rfl)
 refine k34 _ _ ?_
 refine sS H fun K43 k43=>sl S 1 one_131 rfl rfl rfl <| sr 1 rfl <| sE ?_;clear H a;intro a H
 refine k43 _ ?_;clear k43 K43
 refine wp_ret ?_
 refine retC1 (fn := Try.f67) rfl H S (i := 5) rfl rfl (fun _ S => ?_)
 exact ⟨_, _, _, _, rfl, (S.sel [2, 3, 4] rfl rfl)⟩

end Go.Proofs.Ytopmadlgolnmfaa
