/- RfB. Printed by gen.py. -/
import Derived.Test.YtlmddkekeoebcaaRfA
import Derived.Test.YtlmddkekeoebcaaE2
namespace Go.Proofs.Ytlmddkekeoebcaa
open Go.RowKit
set_option linter.unusedVariables false
set_option linter.unusedSimpArgs false
set_option maxRecDepth 100000
set_option maxHeartbeats 4000000


def bcl (L : Nat → Int) (i _j : Nat) : Value := .bool (reached L i)
theorem bcl0 {b : Nat} {k j : Nat} (hj : j < 1) : cput (fun _ _ => Value.bool false) b 0 (.bool true) k j = bcl (fun v => if v = b then 0 else -1) k j := by
  have : j = 0 := by omega
  subst this
  unfold cput bcl reached
  dsimp only
  by_cases e : k = b
  · subst e; simp
  · simp [e]
theorem bcl_put {L : Nat → Int} {p : Nat} {v : Int} (hv : 0 ≤ v) {k j : Nat} (hj : j < 1) : cput (bcl L) p 0 (.bool true) k j = bcl (upd L p v) k j := by
  have : j = 0 := by omega
  subst this
  unfold cput bcl reached upd
  by_cases e : k = p
  · rw [if_pos ⟨e, rfl⟩, if_pos e, decide_eq_true hv]
  · rw [if_neg (fun h => e h.1), if_neg e]
theorem ncl_at {n : Nat → Nat} {p v : Nat} {k j : Nat} (hj : j < 1) : cput (ncl n) p 0 (.int .i64 (v : Int)) k j = ncl (upd n p v) k j := by
  have : j = 0 := by omega
  subst this
  unfold cput ncl upd
  by_cases e : k = p
  · rw [if_pos ⟨e, rfl⟩, if_pos e]
  · rw [if_neg (fun h => e h.1), if_neg e]
theorem ncl_app {q : Nat → Nat} {n v : Nat} {x : Value} (hx : x = .int .i64 (v : Int)) {k j : Nat} (hk : k < n + 1) (hj : j < 1) : capp n (ncl q) (fun k' j => ([[x]].getD k' []).getD j undef) k j = ncl (upd q n v) k j := by
  subst hx
  have : j = 0 := by omega
  subst this
  unfold capp ncl upd
  by_cases h : k < n
  · rw [if_pos h, if_neg (by omega)]
  · have e : k = n := by omega
    subst e
    rw [if_neg h, Nat.sub_self, if_pos rfl]; rfl
theorem mk_false : ∀ k j, j < 1 → [Value.bool false].getD j undef = (fun _ _ => Value.bool false : Nat → Nat → Value) k j := by
  intro k j hj
  have : j = 0 := by omega
  subst this; rfl


theorem ref_reached (N : Net) (E : List Eg) (r : Nat → Int) (nb P T : Nat) (st1 st2 : Value) (EA : Option Addr) (ec k : Nat) (AA : Option Addr) (A : Nat → Option Addr) (c : Nat → Nat) (vol : Int) (w : World) (F : Nat → Prop) (S : St w F [boxM nb 124 [.int .i64 (P : Int), st1, st2, .int .i64 (T : Int), .slice EA (E).length ec, .slice AA (k) (k), .int .i64 (vol)], ownM 144 5 EA (E).length ec (egc (E) (r)), ownM 23 1 AA (k) (k) (hdc A (fun z9 => ((ixs E) z9).length) c), ragM 3 1 (fun q => q < k) A (fun z9 => ((ixs E) z9).length) c (fun z9 => wcl ((ixs E) z9))] w) (K : Lk N E) (W : N.Wf) (hk : N.k = k) (hb0 : P * (T + 1) < k) (hk2 : k ≤ 1000000) (hE : E.length ≤ 1000000) (hP : P ≤ 1000) (hT : T ≤ 1000) :
    Calls Try.prog 73 [.pointer (some ⟨nb, 0, none⟩)].toArray w (Ret (fun u w' => ∃ IA BA L by_, u = .tuple #[.slice IA k k, .slice BA k k] ∧ LevOk N (rmE E r) (P * (T + 1)) L ∧ Rch N E r (P * (T + 1)) L by_ ∧ St w F [ownM 4 1 IA k k (bcl L), ownM 3 1 BA k k (ncl by_), boxM nb 124 [.int .i64 (P : Int), st1, st2, .int .i64 (T : Int), .slice EA (E).length ec, .slice AA (k) (k), .int .i64 (vol)], ownM 144 5 EA (E).length ec (egc (E) (r)), ownM 23 1 AA (k) (k) (hdc A (fun z9 => ((ixs E) z9).length) c), ragM 3 1 (fun q => q < k) A (fun z9 => ((ixs E) z9).length) c (fun z9 => wcl ((ixs E) z9))] w')) := by
 refine enter Try.func73 rfl Try.ntmps73 rfl (fun a H => ?_)
 skip
 refine sS H fun K1 k1=>sr 2 rfl <| sE ?_;clear H a;intro a H
 refine k1 _ ?_;clear k1 K1
 have SR := (S.sel [0, 1, 2, 3] rfl rfl)
 refine meet_sr (X := Option Addr × Option Addr) [0] H rfl (fun ⟨IA, BA⟩ => [(4, .slice IA k k), (5, .slice BA k k)]) (fun ⟨IA, BA⟩ => [ownM 4 1 IA k k (fun _ _ => .bool false), ownM 3 1 BA k k (ncl (fun _ => 0))]) (fun ⟨IA, BA⟩ => True) SR (fun K2 k2 => ?_) ?_
 ·skip
  replace H := H.keep [0] rfl
  replace S := S.drew
  refine one_wt 999 (.p 0 (.p 1 (.p 2 (.q 3 (.p 4 (.p 6 (.p 7 (.p 8 (.q 9 (.p 10 (.b2 5 (.p 12 (.e 11 (.p 13 .nil))) 11 (.e 5 (.p 12 (.p 13 .nil)))))))))))))) (by kernel_rfl) (by kernel_rfl) (S.sel [0, 1, 2, 3] rfl rfl) ?_
  refine wt_pure H rfl rfl (fun _ => does_move rfl) ?_;clear H a;intro a H
  refine wt_pure H rfl rfl (fun _ => does_nilCheck rfl) ?_;clear H a;intro a H
  refine wt_pure H rfl rfl (fun _ => (does_field fo_124_3 rfl)) ?_;clear H a;intro a H
  refine wt_does H rfl rfl (fun _ S => does_load one_122 rfl (boxM.rd S (i := 0) rfl rfl)) ?_;clear H a;intro a H
  refine wt_pure H rfl rfl (fun _ => does_len sl_122 rfl) ?_;clear H a;intro a H
  refine wt_pure H rfl rfl (fun _ => does_move rfl) ?_;clear H a;intro a H
  refine wt_pure H rfl rfl (fun _ => does_nilCheck rfl) ?_;clear H a;intro a H
  refine wt_pure H rfl rfl (fun _ => (does_field fo_124_3 rfl)) ?_;clear H a;intro a H
  refine wt_does H rfl rfl (fun _ S => does_load one_122 rfl (boxM.rd S (i := 0) rfl rfl)) ?_;clear H a;intro a H
  refine wt_pure H rfl rfl (fun _ => does_len sl_122 rfl) ?_;clear H a;intro a H
  refine wt_b2 rfl rfl ?_ ?_
  ·skip
   refine list_make (n := k) H rfl S sl_114 sz_4 ze_4 by_4 rfl (by decide) rfl rfl (by omega) (by omega) ?_;clear H a S;intro A1 _ a hA1 S H
   replace S := S.recell (i := 0) rfl (cell' := fun _ _ => .bool false) (fun k j _ hj => mk_false k j hj)
   refine wpList_nil (And.intro (Or.inr (S.sel [1, 2, 3, 4] rfl rfl)) ?_)
   refine wt_pure H rfl rfl (fun _ => does_assign rfl) ?_;clear H a;intro a H
   refine wt_eff rfl ?_
   refine list_make (n := k) H rfl S sl_23 sz_3 ze_3 by_3 rfl (by decide) rfl rfl (by omega) (by omega) ?_;clear H a S;intro A2 _ a hA2 S H
   replace S := S.recell (i := 0) rfl (cell' := ncl (fun _ => 0)) (fun k j _ hj => mk_ncl k j hj)
   refine wpList_nil (And.intro (Or.inr (S.sel [2, 3, 4, 5] rfl rfl)) ?_)
   refine wt_pure H rfl rfl (fun _ => does_assign rfl) ?_;clear H a;intro a H
   refine wt_nil ?_
   exact k2 (_, _) a _ (trivial) (S.sel [1, 0, 2, 3, 4, 5] rfl rfl) (H.keep [4, 5, 0] rfl)
  ·skip
   refine list_make (n := k) H rfl S sl_23 sz_3 ze_3 by_3 rfl (by decide) rfl rfl (by omega) (by omega) ?_;clear H a S;intro A3 _ a hA3 S H
   replace S := S.recell (i := 0) rfl (cell' := ncl (fun _ => 0)) (fun k j _ hj => mk_ncl k j hj)
   refine wpList_nil (And.intro (Or.inr (S.sel [1, 2, 3, 4] rfl rfl)) ?_)
   refine wt_eff rfl ?_
   refine list_make (n := k) H rfl S sl_114 sz_4 ze_4 by_4 rfl (by decide) rfl rfl (by omega) (by omega) ?_;clear H a S;intro A4 _ a hA4 S H
   replace S := S.recell (i := 0) rfl (cell' := fun _ _ => .bool false) (fun k j _ hj => mk_false k j hj)
   refine wpList_nil (And.intro (Or.inr (S.sel [2, 3, 4, 5] rfl rfl)) ?_)
   refine wt_pure H rfl rfl (fun _ => does_assign rfl) ?_;clear H a;intro a H
   refine wt_pure H rfl rfl (fun _ => does_assign rfl) ?_;clear H a;intro a H
   refine wt_nil ?_
   exact k2 (_, _) a _ (trivial) (S.sel [0, 1, 2, 3, 4, 5] rfl rfl) (H.keep [4, 5, 0] rfl)
 clear SR H S a
 intro xm a wm hp S H
 obtain ⟨IA, BA⟩ := xm
 replace H := H.keep [0, 4, 5] rfl
 refine seq_list fun K4 k4 => ?_
 refine ls 2 H <| sr 2 rfl <| sE ?_;clear H a;intro a H
 have S1 := (S.sel [2] rfl rfl)
 refine list_call H rfl rfl Try.func89 rfl rfl (ref_begin E nb P T st1 st2 EA ec k AA A c vol _ _ S1.startR hP hT) ?_;clear H a
 rintro _ _ a ⟨rfl, S2⟩ H
 replace S := (S.sel [2, 0, 1, 3, 4, 5] rfl rfl).callR (M := [_]) S2; clear S1 S2
 refine ls 1 H <| si sl_114 sz_4 rfl rfl (ownM.adr S (i := 1) rfl (by omega)) (by omega) <| sE ?_;clear H a;intro a H
 refine list_store_own H S (i := 1) rfl rfl rfl (by omega) (by omega) sz_4 rfl ?_
 clear H a S;intro _ a S H
 replace S := S.recell (i := 1) rfl (cell' := bcl (fun v => if v = (P * (T + 1)) then 0 else -1)) (fun k j _ hj => bcl0 hj)
 refine k4 _ _ ?_;clear k4 K4
 refine seq_list fun K5 k5 => ?_
 refine ls 1 H <| sr 1 rfl <| sE ?_;clear H a;intro a H
 have S1 := (S.sel [0] rfl rfl)
 refine list_call H rfl rfl Try.func89 rfl rfl (ref_begin E nb P T st1 st2 EA ec k AA A c vol _ _ S1.startR hP hT) ?_;clear H a
 rintro _ _ a ⟨rfl, S2⟩ H
 replace S := (S.sel [0, 1, 2, 3, 4, 5] rfl rfl).callR (M := [_]) S2; clear S1 S2
 refine list_build' H rfl S sl_23 sz_3 ze_3 rfl rfl rfl rfl rfl rfl rfl rfl rfl ?_;clear H a S;intro A5 _ a hA5 S H
 replace S := S.recell (i := 0) rfl (cell' := ncl (fun _ => (P * (T + 1)))) (fun k j hk hj => getD2 hk hj)
 refine ls 1 H <| sr 1 rfl <| sE ?_;clear H a;intro a H
 refine k5 _ _ ?_;clear k5 K5
 refine wp_seq_k fun K6 k6 => ?_
 replace H := H.keep [0, 4, 5, 6] rfl
 refine sS H fun K7 k7=>sr 1 rfl <| sE ?_;clear H a;intro a H
 refine k7 _ ?_;clear k7 K7
 refine wp_block ?_
 refine loop_st (X := (Nat → Int) × (Nat → Nat) × Nat × Nat × Option Addr × Nat × (Nat → Nat)) (R0 := _) [0, 4, 5] H rfl (fun ⟨L, qf, ql, h, QA, qc, by_⟩ => [(6, .slice QA ql qc), (7, .int .i64 (h : Int))]) (fun ⟨L, qf, ql, h, QA, qc, by_⟩ => [ownM 4 1 IA k k (bcl L), ownM 3 1 BA k k (ncl by_), ownM 3 1 QA ql qc (ncl qf)]) (fun g ⟨L, qf, ql, h, QA, qc, by_⟩ => Bfs N (rmE E r) (P * (T + 1)) L qf ql h 0 ∧ Rch N E r (P * (T + 1)) L by_ ∧ h ≤ ql ∧ g + h = N.k) (N.k) (fun v => if v = (P * (T + 1)) then 0 else -1, fun _ => (P * (T + 1)), 1, 0, _, _, fun _ => 0) ?_ (S.sel [2, 3, 0, 1, 4, 5, 6] rfl rfl) (H.keep [6, 7, 0, 4, 5] rfl) ?_
 · exact ⟨Bfs.start (by omega) (fun _ _ => rfl) rfl, Rch.start (by omega) (fun _ _ => rfl), by omega, by omega⟩
 clear H S a
 intro g1 x1 a w1 hp S H K8 k8
 obtain ⟨L, qf, ql, h, QA, qc, by_⟩ := x1
 dsimp only at hp S H
 obtain ⟨hB, hR, hhq, hgh⟩ := hp
 have hql := hB.le
 refine wp_seq_k fun K9 k9 => ?_
 refine sS H fun K10 k10=>sr 2 rfl <| sL sl_23 rfl <| sr 1 rfl <| sE ?_;clear H a;intro a H
 refine k10 _ ?_;clear k10 K10
 refine condL H rfl (fun hc1 => ?_) (fun hc1 => ?_)
 ·skip
  refine wp_skip ?_
  refine k9 _ _ ?_
  refine wp_seq_k fun K11 k11 => ?_
  refine wp_block ?_
  have hqk : qf h < k := by have := (hB.mem h (by omega)).1; omega
  replace H := H.keep [0, 4, 5, 6, 7] rfl
  replace S := S.drew
  refine sD H fun K12 k12=>sr 2 rfl <| sf fo_124_3 rfl <| sl S 3 one_122 rfl rfl rfl <| sr 2 rfl <| si sl_23 sz_3 rfl rfl (ownM.adr S (i := 2) rfl (by omega)) (by omega) <| slm one_3 rfl (ownM.rd S (i := 2) rfl (by omega) (by omega)) <| si sl_122 sz_23 rfl rfl (ownM.adr S (i := 5) rfl (by omega)) (by omega) <| slm one_23 rfl (ownM.rd S (i := 5) rfl (by omega) (by omega)) <| sr 1 rfl <| sE ?_;clear H a;intro a H
  refine k12 _ ?_;clear k12 K12
  replace H := H.keep [0, 4, 5, 6, 7, 8] rfl
  refine sS H fun K13 k13=>sr 1 rfl <| sE ?_;clear H a;intro a H
  refine k13 _ ?_;clear k13 K13
  refine wp_block ?_
  have hln := K.len (qf h) (by omega)
  refine loop_st (X := (Nat → Int) × (Nat → Nat) × Nat × Nat × Option Addr × Nat × (Nat → Nat)) (R0 := _) [0, 4, 5, 7, 8] H rfl (fun ⟨L2, qf2, ql2, J, QA2, qc2, by2⟩ => [(6, .slice QA2 ql2 qc2), (9, .int .i64 (J : Int))]) (fun ⟨L2, qf2, ql2, J, QA2, qc2, by2⟩ => [ownM 4 1 IA k k (bcl L2), ownM 3 1 BA k k (ncl by2), ownM 3 1 QA2 ql2 qc2 (ncl qf2)]) (fun g ⟨L2, qf2, ql2, J, QA2, qc2, by2⟩ => Bfs N (rmE E r) (P * (T + 1)) L2 qf2 ql2 h J ∧ Rch N E r (P * (T + 1)) L2 by2 ∧ h < ql2 ∧ J ≤ N.n (qf h) ∧ g + J = N.n (qf h) ∧ qf2 h = qf h) (N.n (qf h)) (L, qf, ql, 0, _, _, by_) ?_ (S.sel [0, 1, 2, 3, 4, 5, 6] rfl rfl) (H.keep [6, 9, 0, 4, 5, 7, 8] rfl) ?_
  · exact ⟨hB, hR, by omega, by omega, by omega, rfl⟩
  clear H S a
  intro g2 x2 a w2 hp S H K14 k14
  obtain ⟨L2, qf2, ql2, J, QA2, qc2, by2⟩ := x2
  dsimp only at hp S H
  obtain ⟨hB2, hR2, hhq2, hJn, hgJ, hqe⟩ := hp
  have hql2 := hB2.le
  refine wp_seq_k fun K15 k15 => ?_
  refine sS H fun K16 k16=>sr 2 rfl <| sL sl_23 rfl <| sr 1 rfl <| sE ?_;clear H a;intro a H
  refine k16 _ ?_;clear k16 K16
  refine condL H rfl (fun hc2 => ?_) (fun hc2 => ?_)
  ·skip
   dsimp only at hc2
   refine wp_skip ?_
   refine k15 _ _ ?_
   refine wp_seq_k fun K17 k17 => ?_
   refine wp_block ?_
   have hbt9 : (fun i => (ixs E i).length) (qf h) = N.n (qf h) := hln
   have hjn : J < N.n (qf h) := by omega
   have hEl := K.lt (qf h) (by omega) J hjn
   have het := K.et (qf h) (by omega) J hjn
   have htk := W.to_lt (qf h) (by omega) J hjn
   rw [← het] at htk
   have hLu := (hB2.mem h (by omega)).2
   rw [hqe] at hLu
   have hnl := ragM.le S (i := 6) rfl hqk
   have hmx : maxLen = 9223372036854775807 := rfl
   replace H := H.keep [0, 4, 5, 6, 7, 8, 9] rfl
   replace S := S.drew
   refine seq_wq [(0, true), (1, true), (2, true), (3, true), (4, true), (5, true), (6, true), (7, true), (8, true), (9, true), (10, false), (11, false)] (by kernel_rfl) (by kernel_rfl) (S.sel [0, 1, 2, 3, 4, 5, 6] rfl rfl) fun K18 k18 => ?_
   refine qF H <| qr 2 rfl <| qd rfl (fun _ S => (does_field fo_124_2 rfl)) <| qd rfl (fun _ S => does_load one_121 rfl (boxM.rd S (i := 3) rfl rfl)) <| qr 2 rfl <| qd rfl (fun _ S => does_indexN sl_23 sz_3 rfl rfl (ragM.adr S (i := 6) (p := qf h) rfl hqk (by omega)) (by omega)) <| qd rfl (fun _ S => does_load one_3 rfl (ragM.rd S (i := 6) (p := qf h) rfl hqk (by omega) (by omega))) <| qd rfl (fun _ S => does_indexN sl_121 sz_144 rfl rfl (ownM.adr S (i := 4) rfl (by omega)) (by omega)) <| qd rfl (fun _ S => (does_loadOwn agg_144 sz_144 rfl S (i := 4) rfl (by omega) (by omega))) <| qK ?_;clear H a;intro a H
   refine wq_eff rfl ?_
   refine list_alloc H rfl S ze_144 ?_;clear H a S;intro b10 _ a hb10 hbw10 S H
   refine wpList_nil (And.intro (S.sel [1, 2, 3, 4, 5, 6, 7] rfl rfl) ?_)
   refine wq_eff rfl ?_
   refine list_store H S (i := 0) rfl rfl rfl rfl sz_144 rfl rfl ?_
   clear H a S;intro _ a S H
   refine wpList_nil (And.intro (S.sel [1, 2, 3, 4, 5, 6, 7] rfl rfl) ?_)
   refine wq_nil ?_
   refine k18 _ _ ?_
   clear k18 K18
   replace H := H.keep [0, 4, 5, 6, 7, 8, 9, 10] rfl
   refine sS H fun K19 k19=>sf fo_144_2 rfl <| sl S 0 one_3 rfl rfl rfl <| sr 2 rfl <| sg 6 3 65 71 true rfl rfl (fun hg4 => by
       have hq4 := hg4;try simp only [o1,o2,o3,o4,o5,o6,o7,o8,o9,oa] at hq4
       exact sy hg4 <| sr 1 rfl <| sy hg4 <| sf fo_144_1 rfl <| sy hg4 <| sl S 0 one_3 rfl rfl rfl <| sy hg4 <| si sl_114 sz_4 rfl rfl (ownM.adr S (i := 1) rfl (by omega)) (by omega) <| sy hg4 <| slm one_4 rfl (ownM.rd S (i := 1) rfl (by omega) (by omega)) <| sy hg4 <| sr 1 rfl <| sz 6 rfl rfl rfl) <| sa rfl rfl rfl <| sE ?_;clear H a;intro a H
   refine k19 _ ?_;clear k19 K19
   refine cond_ H rfl (fun hc3 => ?_) (fun hc3 => ?_)
   ·skip
    try simp only [o1,o2,o3,o4,o5,o6,o7,o8,o9,oa] at hc3
    have hLt : L2 (E.getD ((ixs E (qf h)).getD J 0) Eg.zero).t < 0 := by have h9 := hc3.2; unfold reached at h9; simpa using h9
    have hvis := hB2.visit W hhq2 (by rw [hqe]; exact hjn) (by rw [hqe]; exact hc3.1) (by rw [hqe, ← het]; exact hLt)
    rw [hqe, ← het] at hvis
    have hrv := hR2.visit (N := N) (u := qf h) (j := J) (by omega) hjn hLu.1 hc3.1 (by rw [← het]; exact hLt)
    rw [← het] at hrv
    replace H := H.keep [0, 4, 5, 6, 7, 8, 9, 10] rfl
    refine seq_list fun K20 k20 => ?_
    refine ls 4 H <| sr 1 rfl <| sf fo_144_1 rfl <| sl S 0 one_3 rfl rfl rfl <| si sl_114 sz_4 rfl rfl (ownM.adr S (i := 1) rfl (by omega)) (by omega) <| sE ?_;clear H a;intro a H
    refine list_store_own H S (i := 1) rfl rfl rfl (by omega) (by omega) sz_4 rfl ?_
    clear H a S;intro _ a S H
    replace S := S.recell (i := 1) rfl (cell' := bcl (upd L2 (E.getD ((ixs E (qf h)).getD J 0) Eg.zero).t (L2 (qf h) + 1))) (fun k j _ hj => bcl_put (by omega) hj)
    refine k20 _ _ ?_;clear k20 K20
    replace H := H.keep [0, 4, 5, 6, 7, 8, 9, 10] rfl
    refine seq_tail 8 (by kernel_rfl) (by kernel_rfl) fun K21 k21 => ?_
    replace S := S.drew
    refine sF H <| sr 1 rfl <| sf fo_144_1 rfl <| sl S 0 one_3 rfl rfl rfl <| sr 2 rfl <| si sl_23 sz_3 rfl rfl (ragM.adr S (i := 7) (p := qf h) rfl hqk (by omega)) (by omega) <| slm one_3 rfl (ragM.rd S (i := 7) (p := qf h) rfl hqk (by omega) (by omega)) <| si sl_23 sz_3 rfl rfl (ownM.adr S (i := 2) rfl (by omega)) (by omega) <| sE ?_;clear H a;intro a H
    refine list_store_own H S (i := 2) rfl rfl rfl (by omega) (by omega) sz_3 rfl ?_
    clear H a S;intro _ a S H
    replace S := S.recell (i := 2) rfl (cell' := ncl (upd by2 (E.getD ((ixs E (qf h)).getD J 0) Eg.zero).t ((ixs E (qf h)).getD J 0))) (fun k j _ hj => ncl_at hj)
    refine k21 _ _ ?_;clear k21 K21
    replace H := H.keep [0, 4, 5, 6, 7, 8, 9, 10] rfl
    refine one_list ?_
    refine ls 3 H <| sr 1 rfl <| sf fo_144_1 rfl <| sl S 0 one_3 rfl rfl rfl <| sE ?_;clear H a;intro a H
    refine list_build' H rfl S sl_23 sz_3 ze_3 rfl rfl rfl rfl rfl rfl rfl rfl rfl ?_;clear H a S;intro A6 _ a hA6 S H
    refine list_append H rfl S sl_23 sz_3 ze_3 by_3 rfl rfl (i := 4) rfl rfl rfl (ownM.inS S (i := 0) rfl) (one_vs (one rfl)) (by omega) (by omega) ?_;clear H a S;intro A7 c7 _ a S H
    replace S := S.recell (i := 4) rfl (cell' := ncl (upd qf2 ql2 (E.getD ((ixs E (qf h)).getD J 0) Eg.zero).t)) (fun k j hk hj => ncl_app rfl hk hj)
    refine ls 1 H <| sr 1 rfl <| sE ?_;clear H a;intro a H
    refine k17 _ _ ?_
    refine sO H <| sr 1 rfl <| sd (does_add rfl rfl (by unfold i64ok; omega)) <| sr 1 rfl <| sE ?_;clear H a;intro a H
    exact k14 (g2 - 1) (_, _, _, J + 1, _, _, _) a _ (by omega) (by first | exact ⟨hvis, hrv, by omega, by omega, by omega, by rw [upd_ne _ _ (by omega)]; exact hqe⟩ | exact ⟨hskp, hR2, hhq2, by omega, by omega, hqe⟩) (S.sel [2, 3, 4, 5, 6, 7, 8] rfl rfl) (H.keep [6, 9, 0, 4, 5, 7, 8] rfl)
   try simp only [o1,o2,o3,o4,o5,o6,o7,o8,o9,oa] at hc3
   have hskp := hB2.skip (by rw [hqe]; rintro ⟨h8, h9⟩; rw [← het] at h9; rcases hc3 with h7 | h7; (have : 0 < r ((ixs E (qf h)).getD J 0) := h8; omega); (unfold reached at h7; rw [decide_eq_true_eq] at h7; omega))
   refine wp_skip ?_
   refine k17 _ _ ?_
   replace H := H.keep [0, 4, 5, 6, 7, 8, 9] rfl
   refine sO H <| sr 1 rfl <| sd (does_add rfl rfl (by unfold i64ok; omega)) <| sr 1 rfl <| sE ?_;clear H a;intro a H
   exact k14 (g2 - 1) (_, _, _, J + 1, _, _, _) a _ (by omega) (by first | exact ⟨hvis, hrv, by omega, by omega, by omega, by rw [upd_ne _ _ (by omega)]; exact hqe⟩ | exact ⟨hskp, hR2, hhq2, by omega, by omega, hqe⟩) (S.sel [1, 2, 3, 4, 5, 6, 7] rfl rfl) (H.keep [6, 9, 0, 4, 5, 7, 8] rfl)
  dsimp only at hc2
  refine wp_exit ?_
  refine k11 _ _ ?_
  refine sO H <| sr 1 rfl <| sd (does_add rfl rfl (by unfold i64ok; omega)) <| sr 1 rfl <| sE ?_;clear H a;intro a H
  exact k8 (g1 - 1) (L2, qf2, ql2, h + 1, QA2, qc2, by2) a _ (by omega) (⟨hB2.next (by rw [hqe]; omega), hR2, by omega, by omega⟩) (S.sel [0, 1, 2, 3, 4, 5, 6] rfl rfl) (H.keep [6, 7, 0, 4, 5] rfl)
 refine wp_exit ?_
 refine k6 _ _ ?_
 replace H := H.keep [4, 5] rfl
 refine sS H fun K26 k26=>sr 4 rfl <| sE ?_;clear H a;intro a H
 refine k26 _ ?_;clear k26 K26
 refine wp_ret ?_
 refine ret2 (fn := Try.f73) rfl H rfl rfl ?_
 exact ⟨_, _, L, by_, rfl, hB.done (by omega), hR, (S.sel [0, 1, 3, 4, 5, 6] rfl rfl)⟩

end Go.Proofs.Ytlmddkekeoebcaa
