/- CiG. Printed by gen.py. -/
import Derived.Test.YtdepakimbagonaaCiF
namespace Go.Proofs.Ytdepakimbagonaa
open Go.RowKit
set_option linter.unusedVariables false
set_option linter.unusedSimpArgs false
set_option maxRecDepth 100000
set_option maxHeartbeats 4000000


theorem two {p : Nat → Prop} (h0 : p 0) (h1 : p 1) : ∀ j, j < 2 → p j := by
  intro j hj
  rcases (show j = 0 ∨ j = 1 by omega) with rfl | rfl
  · exact h0
  · exact h1
section
variable {hz : Int} {sw : List Int} {ws : List Wr} {al : List Int} {a q n n2 : Nat} {b : Int}
theorem pc_yes (h : pairB hz sw ws al (a : Int) b = true) (hb : b = (a : Int) + 1 + (q : Int)) (hn : n2 = n + pcIn hz sw ws al a q) : n2 + 1 = n + pcIn hz sw ws al a (q + 1) := by
  subst hb; rw [pcIn, if_pos h]; omega
theorem has3 : ∀ x y : Bool, x = true ∨ (x = false ∧ y = true) ∨ (x = false ∧ y = false) := by decide
theorem pair_a (hA : hasC al (a : Int) = true) : ¬ pairB hz sw ws al (a : Int) b = true := by unfold pairB; rw [hA]; simp
theorem pair_b (hA : hasC al b = true) : ¬ pairB hz sw ws al (a : Int) b = true := by unfold pairB; rw [hA]; simp
theorem pair_c (hA : hasC al (a : Int) = false) (hB : hasC al b = false) : pairB hz sw ws al (a : Int) b = decide (0 < (wkN hz sw ws (lorI (1 * 2 ^ (a : Int).toNat) (1 * 2 ^ b.toNat)) hz.toNat).length) := by unfold pairB; rw [hA, hB]; rfl
theorem pc_no (h : ¬ pairB hz sw ws al (a : Int) b = true) (hb : b = (a : Int) + 1 + (q : Int)) (hn : n2 = n + pcIn hz sw ws al a q) : n2 = n + pcIn hz sw ws al a (q + 1) := by
  subst hb; rw [pcIn, if_neg h]; exact hn
end


theorem cir_Pairs (hz : Int) (sw : List Int) (SA : Option Addr) (sc : Nat) (ws : List Wr) (QA : Option Addr) (qc : Nat) (OA : Nat → Option Addr) (oc : Nat → Nat) (w : World) (hsw : InS w noF 1 SA sw.length (icl sw)) (hws : InS w noF 2 QA ws.length (wrcell ws OA oc)) (hof : ∀ k, k < ws.length → InS w noF 1 (OA k) (ws.getD k Wr.zero).of.length (icl (ws.getD k Wr.zero).of)) (hE : circE hz sw ws = 0) :
    Calls Try.prog 27 [.agg [.int .i64 hz, .slice SA sw.length sc, .slice QA ws.length qc].toArray].toArray w (Ret (fun u w' => ∃ A' c', u = .tuple #[.slice A' (pcOut hz sw ws (critN hz sw ws sw.length) sw.length) c', .int .i64 0] ∧ St w noF [] w')) := by
 have V := circ_valid (circ_ok hE)
 have hns := V.nsw
 have hnw := V.nws
 have hzb := V.hzb
 have hof9 := cir_ofn V
 have hcl9 := critN_len (hz := hz) (sw := sw) (ws := ws) sw.length
 refine enter Try.func27 rfl Try.ntmps27 rfl (fun a H => ?_)
 have S := St.start w
 refine seq_list fun K1 k1 => ?_
 refine list_box H rfl S rfl rfl ?_;clear H a S;intro b1 _ a hb1 hbw1 S H
 refine ls 2 H <| sr 2 rfl <| sE ?_;clear H a;intro a H
 refine k1 _ _ ?_;clear k1 K1
 replace H := H.keep [1] rfl
 refine seq_list fun K2 k2 => ?_
 refine ls 1 H <| sd ((does_loadBox agg_85 sz_85 rfl S (i := 0) rfl rfl)) <| sE ?_;clear H a;intro a H
 refine list_call H rfl rfl Try.func47 rfl rfl (cir_Critical hz sw SA sc ws QA qc OA oc _ (hsw.now S) (hws.now S) (fun k hk => (hof k hk).now S) hE) ?_;clear H a
 rintro _ _ a ⟨A8, c8, rfl, S2⟩ H
 replace S := S.call S2;clear S2
 refine ls 5 H <| sr 5 rfl <| sE ?_;clear H a;intro a H
 refine k2 _ _ ?_;clear k2 K2
 refine wp_seq_k fun K3 k3 => ?_
 refine sS H fun K4 k4=>sr 2 rfl <| sE ?_;clear H a;intro a H
 refine k4 _ ?_;clear k4 K4
 refine condN H rfl (fun hc1 => ?_) (fun hc1 => ?_)
 ·skip
  replace H := H.keep [5] rfl
  refine sS H fun K5 k5=>sr 3 rfl <| sE ?_;clear H a;intro a H
  refine k5 _ ?_;clear k5 K5
  refine wp_ret ?_
  refine ret2 (fn := Try.f27) rfl H rfl rfl ?_
  exact absurd rfl hc1
 refine wp_skip ?_
 refine k3 _ _ ?_
 refine sS H fun K6 k6=>sr 1 rfl <| sE ?_;clear H a;intro a H
 refine k6 _ ?_;clear k6 K6
 refine wp_seq_k fun K7 k7 => ?_
 refine sS H fun K8 k8=>sf fo_85_1 rfl <| sl S 1 one_25 rfl rfl rfl <| sL sl_25 rfl <| sr 1 rfl <| sE ?_;clear H a;intro a H
 refine k8 _ ?_;clear k8 K8
 refine wp_block ?_
 replace S := S.newNil 132 2 (fun _ _ => undef)
 refine loop_st (X := Nat × Nat × Option Addr × Nat × (Nat → Nat → Value)) (R0 := _) [1, 4, 19] H rfl (fun ⟨u, n, A9, c9, cl9⟩ => [(6, .slice A9 n c9), (20, .int .i64 (u : Int))]) (fun ⟨u, n, A9, c9, cl9⟩ => [ownM 132 2 A9 n c9 cl9]) (fun g ⟨u, n, A9, c9, cl9⟩ => u ≤ sw.length ∧ g + u = sw.length ∧ n = pcOut hz sw ws (critN hz sw ws sw.length) u) (sw.length) (0, 0, none, 0, fun _ _ => undef) ?_ (S.sel [0, 1, 2] rfl rfl) (H.keep [6, 20, 1, 4, 19] rfl) ?_
 · exact ⟨by omega, by omega, rfl⟩
 clear H S a
 intro g1 x1 a w1 hp S H K9 k9
 obtain ⟨u, n, A9, c9, cl9⟩ := x1
 dsimp only at hp S H
 obtain ⟨hu1, hu2, hn1⟩ := hp
 refine sS H fun K10 k10=>sr 1 rfl <| sE ?_;clear H a;intro a H
 refine k10 _ ?_;clear k10 K10
 refine wp_seq_k fun K11 k11 => ?_
 refine condL H rfl (fun hc2 => ?_) (fun hc2 => ?_)
 ·skip
  refine wp_skip ?_
  refine k11 _ _ ?_
  refine wp_seq_k fun K12 k12 => ?_
  refine wp_block ?_
  refine sS H fun K13 k13=>sr 2 rfl <| sE ?_;clear H a;intro a H
  refine k13 _ ?_;clear k13 K13
  refine sS H fun K14 k14=>sr 1 rfl <| sd (does_add rfl rfl (by unfold i64ok; omega)) <| sr 1 rfl <| sE ?_;clear H a;intro a H
  refine k14 _ ?_;clear k14 K14
  refine wp_block ?_
  refine loop_st (X := Nat × Int × Nat × Option Addr × Nat × (Nat → Nat → Value)) (R0 := _) [1, 4, 7, 19, 20] H rfl (fun ⟨q, b, n2, A7, c7, cl7⟩ => [(6, .slice A7 n2 c7), (8, .int .i64 b)]) (fun ⟨q, b, n2, A7, c7, cl7⟩ => [ownM 132 2 A7 n2 c7 cl7]) (fun g ⟨q, b, n2, A7, c7, cl7⟩ => u + 1 + q ≤ sw.length ∧ g + u + 1 + q = sw.length ∧ n2 = n + pcIn hz sw ws (critN hz sw ws sw.length) u q ∧ b = (u : Int) + 1 + (q : Int)) (sw.length - (u + 1)) (0, (u : Int) + 1, n, A9, c9, cl9) ?_ (S.sel [0, 1, 2] rfl rfl) (H.keep [6, 8, 1, 4, 7, 19, 20] rfl) ?_
  · exact ⟨by omega, by omega, rfl, by omega⟩
  clear H S a
  intro g2 x2 a w2 hp S H K15 k15
  obtain ⟨q, b, n2, A7, c7, cl7⟩ := x2
  dsimp only at hp S H
  obtain ⟨hq1, hq2, hn2, hb2⟩ := hp
  obtain ⟨y, rfl⟩ : ∃ y : Nat, b = y := ⟨u + 1 + q, by omega⟩
  refine wp_seq_k fun K16 k16 => ?_
  refine sS H fun K17 k17=>sr 1 rfl <| sf fo_85_1 rfl <| sl S 2 one_25 rfl rfl rfl <| sL sl_25 rfl <| sr 1 rfl <| sE ?_;clear H a;intro a H
  refine k17 _ ?_;clear k17 K17
  refine condL H rfl (fun hc3 => ?_) (fun hc3 => ?_)
  ·skip
   refine wp_skip ?_
   refine k16 _ _ ?_
   refine wp_seq_k fun K18 k18 => ?_
   refine wp_block ?_
   rcases has3 (hasC (critN hz sw ws sw.length) (u : Int)) (hasC (critN hz sw ws sw.length) (y : Int)) with hA | ⟨hA, hB⟩ | ⟨hA, hB⟩
   ·skip
    have hsh := pwc (h := u) (by omega)
    have hsh2 := pwc (h := y) (by omega)
    have hwl9 := wkN_len (hz := hz) (sw := sw) (ws := ws) (cl := lorI (1 * 2 ^ (u : Int).toNat) (1 * 2 ^ (y : Int).toNat)) hz.toNat
    replace H := H.keep [1, 4, 6, 7, 8, 19, 20] rfl
    replace S := S.drew
    refine seq_wq [(0, true), (1, true), (2, false), (3, true), (4, true), (5, true), (6, true), (7, true), (8, true), (9, true), (10, true), (11, true), (12, true), (13, true), (14, true), (15, true), (16, true), (17, true), (18, true), (19, true), (20, true)] (by kernel_rfl) (by kernel_rfl) (S.sel [0, 1, 2] rfl rfl) fun K19 k19 => ?_
    refine qF H <| qr 2 rfl <| qK ?_;clear H a;intro a H
    refine wq_eff rfl ?_
    refine list_call H rfl rfl Try.func48 rfl rfl (cir_Contains (critN hz sw ws sw.length) A8 c8 _ _ (ownM.inS S (i := 1) rfl) (by omega)) ?_;clear H a
    rintro _ _ a ⟨rfl, S2⟩ H
    replace S := S.call S2;clear S2
    first | rw [hA] at H | rw [hB] at H
    refine wpList_nil (And.intro (S.sel [0, 1, 2] rfl rfl) ?_)
    refine qF H <| qr 2 rfl <| qK ?_;clear H a;intro a H
    refine wq_no H rfl rfl rfl rfl rfl ?_;clear H a;intro a H
    refine wq_no H rfl rfl rfl rfl rfl ?_;clear H a;intro a H
    refine wq_no H rfl rfl rfl rfl rfl ?_;clear H a;intro a H
    refine wq_no H rfl rfl rfl rfl rfl ?_;clear H a;intro a H
    refine qF H <| qd rfl (fun _ S => (does_pick rfl rfl rfl)) <| qr 1 rfl <| qK ?_;clear H a;intro a H
    refine wq_no H rfl rfl rfl rfl rfl ?_;clear H a;intro a H
    refine wq_no H rfl rfl rfl rfl rfl ?_;clear H a;intro a H
    refine wq_no H rfl rfl rfl rfl rfl ?_;clear H a;intro a H
    refine wq_no H rfl rfl rfl rfl rfl ?_;clear H a;intro a H
    refine wq_no H rfl rfl rfl rfl rfl ?_;clear H a;intro a H
    refine wq_no H rfl rfl rfl rfl rfl ?_;clear H a;intro a H
    refine wq_no H rfl rfl rfl rfl rfl ?_;clear H a;intro a H
    refine wq_no H rfl rfl rfl rfl rfl ?_;clear H a;intro a H
    refine wq_no H rfl rfl rfl rfl rfl ?_;clear H a;intro a H
    refine qF H <| qd rfl (fun _ S => (does_pick rfl rfl rfl)) <| qK ?_;clear H a;intro a H
    refine wq_nil ?_
    refine k19 _ _ ?_
    clear k19 K19
    refine cond_ H rfl (fun hc4 => ?_) (fun hc4 => ?_)
    ·skip
     skip
     cases hc4
    skip
    refine wp_skip ?_
    refine k18 _ _ ?_
    replace H := H.keep [1, 4, 6, 7, 8, 19, 20] rfl
    refine sO H <| sr 1 rfl <| sd (does_add rfl rfl (by unfold i64ok; omega)) <| sr 1 rfl <| sE ?_;clear H a;intro a H
    exact k15 (g2 - 1) (q + 1, _, _, _, _, _) a _ (by omega) (⟨by omega, by omega, by first | exact pc_yes (by rw [pair_c hA hB]; exact decide_eq_true (by omega)) hb2 hn2 | exact pc_no (by rw [pair_c hA hB, decide_eq_true_eq]; omega) hb2 hn2 | exact pc_no (pair_a hA) hb2 hn2 | exact pc_no (pair_b hB) hb2 hn2 | exact pc_no (by rw [pair_c hA hB, decide_eq_true_eq]; have h9 := hc6.resolve_left (fun h => h.elim (fun h => Bool.noConfusion h) (fun h => Bool.noConfusion h)); omega) hb2 hn2, by omega⟩) (S.sel [0, 1, 2] rfl rfl) (H.keep [6, 8, 1, 4, 7, 19, 20] rfl)
   ·skip
    have hsh := pwc (h := u) (by omega)
    have hsh2 := pwc (h := y) (by omega)
    have hwl9 := wkN_len (hz := hz) (sw := sw) (ws := ws) (cl := lorI (1 * 2 ^ (u : Int).toNat) (1 * 2 ^ (y : Int).toNat)) hz.toNat
    replace H := H.keep [1, 4, 6, 7, 8, 19, 20] rfl
    replace S := S.drew
    refine seq_wq [(0, true), (1, true), (2, false), (3, true), (4, true), (5, true), (6, true), (7, false), (8, true), (9, true), (10, true), (11, true), (12, true), (13, true), (14, true), (15, true), (16, true), (17, true), (18, true), (19, true), (20, true)] (by kernel_rfl) (by kernel_rfl) (S.sel [0, 1, 2] rfl rfl) fun K21 k21 => ?_
    refine qF H <| qr 2 rfl <| qK ?_;clear H a;intro a H
    refine wq_eff rfl ?_
    refine list_call H rfl rfl Try.func48 rfl rfl (cir_Contains (critN hz sw ws sw.length) A8 c8 _ _ (ownM.inS S (i := 1) rfl) (by omega)) ?_;clear H a
    rintro _ _ a ⟨rfl, S2⟩ H
    replace S := S.call S2;clear S2
    first | rw [hA] at H | rw [hB] at H
    refine wpList_nil (And.intro (S.sel [0, 1, 2] rfl rfl) ?_)
    refine qF H <| qr 2 rfl <| qK ?_;clear H a;intro a H
    refine wq_yes H rfl rfl rfl rfl (fun _ S => does_move rfl) ?_;clear H a;intro a H
    refine wq_yes H rfl rfl rfl rfl (fun _ S => does_move rfl) ?_;clear H a;intro a H
    refine wq_eff rfl ?_
    refine list_yes H rfl rfl ?_
    refine list_call H rfl rfl Try.func48 rfl rfl (cir_Contains (critN hz sw ws sw.length) A8 c8 _ _ (ownM.inS S (i := 1) rfl) (by omega)) ?_;clear H a
    rintro _ _ a ⟨rfl, S2⟩ H
    replace S := S.call S2;clear S2
    first | rw [hA] at H | rw [hB] at H
    refine wpList_nil (And.intro (S.sel [0, 1, 2] rfl rfl) ?_)
    refine wq_yes H rfl rfl rfl rfl (fun _ S => does_not rfl) ?_;clear H a;intro a H
    refine qF H <| qd rfl (fun _ S => (does_and rfl rfl rfl)) <| qr 1 rfl <| qK ?_;clear H a;intro a H
    refine wq_no H rfl rfl rfl rfl rfl ?_;clear H a;intro a H
    refine wq_no H rfl rfl rfl rfl rfl ?_;clear H a;intro a H
    refine wq_no H rfl rfl rfl rfl rfl ?_;clear H a;intro a H
    refine wq_no H rfl rfl rfl rfl rfl ?_;clear H a;intro a H
    refine wq_no H rfl rfl rfl rfl rfl ?_;clear H a;intro a H
    refine wq_no H rfl rfl rfl rfl rfl ?_;clear H a;intro a H
    refine wq_no H rfl rfl rfl rfl rfl ?_;clear H a;intro a H
    refine wq_no H rfl rfl rfl rfl rfl ?_;clear H a;intro a H
    refine wq_no H rfl rfl rfl rfl rfl ?_;clear H a;intro a H
    refine qF H <| qd rfl (fun _ S => (does_pick rfl rfl rfl)) <| qK ?_;clear H a;intro a H
    refine wq_nil ?_
    refine k21 _ _ ?_
    clear k21 K21
    refine cond_ H rfl (fun hc5 => ?_) (fun hc5 => ?_)
    ·skip
     skip
     cases hc5
    skip
    refine wp_skip ?_
    refine k18 _ _ ?_
    replace H := H.keep [1, 4, 6, 7, 8, 19, 20] rfl
    refine sO H <| sr 1 rfl <| sd (does_add rfl rfl (by unfold i64ok; omega)) <| sr 1 rfl <| sE ?_;clear H a;intro a H
    exact k15 (g2 - 1) (q + 1, _, _, _, _, _) a _ (by omega) (⟨by omega, by omega, by first | exact pc_yes (by rw [pair_c hA hB]; exact decide_eq_true (by omega)) hb2 hn2 | exact pc_no (by rw [pair_c hA hB, decide_eq_true_eq]; omega) hb2 hn2 | exact pc_no (pair_a hA) hb2 hn2 | exact pc_no (pair_b hB) hb2 hn2 | exact pc_no (by rw [pair_c hA hB, decide_eq_true_eq]; have h9 := hc6.resolve_left (fun h => h.elim (fun h => Bool.noConfusion h) (fun h => Bool.noConfusion h)); omega) hb2 hn2, by omega⟩) (S.sel [0, 1, 2] rfl rfl) (H.keep [6, 8, 1, 4, 7, 19, 20] rfl)
   have hsh := pwc (h := u) (by omega)
   have hsh2 := pwc (h := y) (by omega)
   have hwl9 := wkN_len (hz := hz) (sw := sw) (ws := ws) (cl := lorI (1 * 2 ^ (u : Int).toNat) (1 * 2 ^ (y : Int).toNat)) hz.toNat
   replace H := H.keep [1, 4, 6, 7, 8, 19, 20] rfl
   replace S := S.drew
   refine seq_wq [(0, true), (1, true), (2, false), (3, true), (4, true), (5, true), (6, true), (7, false), (8, true), (9, true), (10, true), (11, true), (12, true), (13, true), (14, true), (15, true), (16, true), (17, false), (18, true), (19, true), (20, true)] (by kernel_rfl) (by kernel_rfl) (S.sel [0, 1, 2] rfl rfl) fun K23 k23 => ?_
   refine qF H <| qr 2 rfl <| qK ?_;clear H a;intro a H
   refine wq_eff rfl ?_
   refine list_call H rfl rfl Try.func48 rfl rfl (cir_Contains (critN hz sw ws sw.length) A8 c8 _ _ (ownM.inS S (i := 1) rfl) (by omega)) ?_;clear H a
   rintro _ _ a ⟨rfl, S2⟩ H
   replace S := S.call S2;clear S2
   first | rw [hA] at H | rw [hB] at H
   refine wpList_nil (And.intro (S.sel [0, 1, 2] rfl rfl) ?_)
   refine qF H <| qr 2 rfl <| qK ?_;clear H a;intro a H
   refine wq_yes H rfl rfl rfl rfl (fun _ S => does_move rfl) ?_;clear H a;intro a H
   refine wq_yes H rfl rfl rfl rfl (fun _ S => does_move rfl) ?_;clear H a;intro a H
   refine wq_eff rfl ?_
   refine list_yes H rfl rfl ?_
   refine list_call H rfl rfl Try.func48 rfl rfl (cir_Contains (critN hz sw ws sw.length) A8 c8 _ _ (ownM.inS S (i := 1) rfl) (by omega)) ?_;clear H a
   rintro _ _ a ⟨rfl, S2⟩ H
   replace S := S.call S2;clear S2
   first | rw [hA] at H | rw [hB] at H
   refine wpList_nil (And.intro (S.sel [0, 1, 2] rfl rfl) ?_)
   refine wq_yes H rfl rfl rfl rfl (fun _ S => does_not rfl) ?_;clear H a;intro a H
   refine qF H <| qd rfl (fun _ S => (does_and rfl rfl rfl)) <| qr 1 rfl <| qK ?_;clear H a;intro a H
   refine wq_yes H rfl rfl rfl rfl (fun _ S => (does_loadBox agg_85 sz_85 rfl S (i := 2) rfl rfl)) ?_;clear H a;intro a H
   refine wq_yes H rfl rfl rfl rfl (fun _ S => does_move rfl) ?_;clear H a;intro a H
   refine wq_yes H rfl rfl rfl rfl (fun _ S => does_shl rfl rfl (by omega) (by omega) (by unfold i64ok; omega)) ?_;clear H a;intro a H
   refine wq_yes H rfl rfl rfl rfl (fun _ S => does_move rfl) ?_;clear H a;intro a H
   refine wq_yes H rfl rfl rfl rfl (fun _ S => does_shl rfl rfl (by omega) (by omega) (by unfold i64ok; omega)) ?_;clear H a;intro a H
   refine wq_yes H rfl rfl rfl rfl (fun _ S => does_lor rfl rfl hsh hsh2) ?_;clear H a;intro a H
   refine wq_eff rfl ?_
   refine list_yes H rfl rfl ?_
   refine list_call H rfl rfl Try.func49 rfl rfl (cir_weak hz sw SA sc ws QA qc OA oc (lorI (1 * 2 ^ (u : Int).toNat) (1 * 2 ^ (y : Int).toNat)) _ (hsw.now S) (hws.now S) (fun k hk => (hof k hk).now S) V (lorI_bd hsh hsh2)) ?_;clear H a
   rintro _ _ a ⟨A5, c5, rfl, S2⟩ H
   replace S := S.call S2;clear S2
   refine wpList_nil (And.intro (S.sel [1, 2, 3] rfl rfl) ?_)
   refine wq_yes H rfl rfl rfl rfl (fun _ S => does_len sl_25 rfl) ?_;clear H a;intro a H
   refine wq_yes H rfl rfl rfl rfl (fun _ S => does_gtr rfl rfl) ?_;clear H a;intro a H
   refine qF H <| qd rfl (fun _ S => (does_and rfl rfl rfl)) <| qK ?_;clear H a;intro a H
   refine wq_nil ?_
   refine k23 _ _ ?_
   clear k23 K23
   refine cond_ H rfl (fun hc6 => ?_) (fun hc6 => ?_)
   ·skip
    try simp only [o1,o2,o3,o4,o5,o6,o7,o8,o9,oa] at hc6
    have hno : n ≤ 12 * 12 := by rw [hn1]; exact Nat.le_trans (pcOut_le _) (Nat.mul_le_mul (show u ≤ 12 by omega) (show sw.length ≤ 12 by omega))
    have hpi := pcIn_le (hz := hz) (sw := sw) (ws := ws) (al := (critN hz sw ws sw.length)) (a := u) q
    replace H := H.keep [1, 4, 6, 7, 8, 19, 20] rfl
    refine one_list ?_
    refine ls 4 H <| sr 3 rfl <| sd (does_build bt_132 rfl rfl) <| sE ?_;clear H a;intro a H
    refine list_build' H rfl S sl_89 sz_132 ze_132 rfl rfl rfl rfl rfl rfl rfl rfl rfl ?_;clear H a S;intro A1 _ a hA1 S H
    refine list_append H rfl S sl_89 sz_132 ze_132 by_132 rfl rfl (i := 2) rfl rfl rfl (ownM.inS S (i := 0) rfl) (one_vs (two rfl rfl)) (by omega) (by omega) ?_;clear H a S;intro A2 c2 _ a S H
    refine ls 1 H <| sr 1 rfl <| sE ?_;clear H a;intro a H
    refine k18 _ _ ?_
    replace H := H.keep [1, 4, 6, 7, 8, 19, 20] rfl
    refine sO H <| sr 1 rfl <| sd (does_add rfl rfl (by unfold i64ok; omega)) <| sr 1 rfl <| sE ?_;clear H a;intro a H
    exact k15 (g2 - 1) (q + 1, _, _, _, _, _) a _ (by omega) (⟨by omega, by omega, by first | exact pc_yes (by rw [pair_c hA hB]; exact decide_eq_true (by omega)) hb2 hn2 | exact pc_no (by rw [pair_c hA hB, decide_eq_true_eq]; omega) hb2 hn2 | exact pc_no (pair_a hA) hb2 hn2 | exact pc_no (pair_b hB) hb2 hn2 | exact pc_no (by rw [pair_c hA hB, decide_eq_true_eq]; have h9 := hc6.resolve_left (fun h => h.elim (fun h => Bool.noConfusion h) (fun h => Bool.noConfusion h)); omega) hb2 hn2, by omega⟩) (S.sel [2, 3, 4] rfl rfl) (H.keep [6, 8, 1, 4, 7, 19, 20] rfl)
   try simp only [o1,o2,o3,o4,o5,o6,o7,o8,o9,oa] at hc6
   refine wp_skip ?_
   refine k18 _ _ ?_
   refine sO H <| sr 1 rfl <| sd (does_add rfl rfl (by unfold i64ok; omega)) <| sr 1 rfl <| sE ?_;clear H a;intro a H
   exact k15 (g2 - 1) (q + 1, _, _, _, _, _) a _ (by omega) (⟨by omega, by omega, by first | exact pc_yes (by rw [pair_c hA hB]; exact decide_eq_true (by omega)) hb2 hn2 | exact pc_no (by rw [pair_c hA hB, decide_eq_true_eq]; omega) hb2 hn2 | exact pc_no (pair_a hA) hb2 hn2 | exact pc_no (pair_b hB) hb2 hn2 | exact pc_no (by rw [pair_c hA hB, decide_eq_true_eq]; have h9 := hc6.resolve_left (fun h => h.elim (fun h => Bool.noConfusion h) (fun h => Bool.noConfusion h)); omega) hb2 hn2, by omega⟩) (S.sel [1, 2, 3] rfl rfl) (H.keep [6, 8, 1, 4, 7, 19, 20] rfl)
  refine wp_exit ?_
  refine k12 _ _ ?_
  refine sO H <| sd (does_add rfl rfl (by unfold i64ok; omega)) <| sr 1 rfl <| sE ?_;clear H a;intro a H
  exact k9 (g1 - 1) (u + 1, _, _, _, _) a _ (by omega) (⟨by omega, by omega, by rw [pcOut, ← hn1, show sw.length - (u + 1) = q by omega]; exact hn2⟩) (S.sel [0, 1, 2] rfl rfl) (H.keep [6, 20, 1, 4, 19] rfl)
 refine wp_exit ?_
 refine k7 _ _ ?_
 replace H := H.keep [6] rfl
 refine sS H fun K28 k28=>sr 3 rfl <| sE ?_;clear H a;intro a H
 refine k28 _ ?_;clear k28 K28
 refine wp_ret ?_
 refine ret2 (fn := Try.f27) rfl H rfl rfl ?_
 obtain rfl : u = sw.length := by omega
 rw [← hn1]
 exact ⟨_, _, rfl, (S.sel [] rfl rfl)⟩

end Go.Proofs.Ytdepakimbagonaa
