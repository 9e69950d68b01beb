/- WyA. Printed by gen.py. -/
import Derived.Test.YtopmadlgolnmfaaLib
import Derived.Test.YtopmadlgolnmfaaE2
import Derived.Test.YtopmadlgolnmfaaE4
namespace Go.Proofs.Ytopmadlgolnmfaa
open Go.RowKit
set_option linter.unusedVariables false
set_option linter.unusedSimpArgs false
set_option maxRecDepth 100000
set_option maxHeartbeats 4000000


theorem lev0_put {b : Nat} : ∀ k j, j < 1 → cput (fun _ _ => .int .i64 (-1)) b 0 (.int .i64 0) k j = lcl (fun v => if v = b then 0 else -1) k j := by
  intro k j hj
  have : j = 0 := by omega
  subst this
  unfold cput lcl
  by_cases e : k = b <;> simp [e]
theorem lev_put {L : Nat → Int} {p : Nat} {v : Int} : ∀ k j, j < 1 → cput (lcl L) p 0 (.int .i64 v) k j = lcl (upd L p v) k j := by
  intro k j hj
  have : j = 0 := by omega
  subst this
  unfold cput lcl upd
  by_cases e : k = p <;> simp [e]
theorem q_put {q : Nat → Nat} {n ql h v : Nat} (hn : h + n = ql) : ∀ k, k < n + 1 → (if k = n then ((v : Nat) : Int) else ((q (h + k) : Nat) : Int)) = ((upd q ql v (h + k) : Nat) : Int) := by
  intro k hk
  unfold upd
  by_cases e : k = n
  · rw [if_pos e, if_pos (by omega)]
  · rw [if_neg e, if_neg (by omega)]


theorem net_node (N : Net) (r : RM) (mv : Nat → Nat → Mv) (nb : Nat) (pl tk : Int) (st1 st2 : Value) (EA : Option Addr) (A : Nat → Option Addr) (c : Nat → Nat) (b x : Nat) (p t : Int) (w : World) (F : Nat → Prop) (S : St w F [boxM nb 157 [.int .i64 pl, st1, st2, .int .i64 tk, .slice EA N.k N.k, .int .i64 (b : Int), .int .i64 (x : Int)]] w) (hp : -100000 ≤ p ∧ p ≤ 100000) (ht : i64ok (pl * t)) (ht2 : i64ok (pl * t + p)) :
    Calls Try.prog 89 [.pointer (some ⟨nb, 0, none⟩), .int .i64 p, .int .i64 t].toArray w (Ret (fun u w' => u = .int .i64 (pl * t + p) ∧ St w F [boxM nb 157 [.int .i64 pl, st1, st2, .int .i64 tk, .slice EA N.k N.k, .int .i64 (b : Int), .int .i64 (x : Int)]] w')) := by
 refine enter Try.func89 rfl Try.ntmps89 rfl (fun a H => ?_)
 skip
 refine sS H fun K1 k1=>sr 1 rfl <| sE ?_;clear H a;intro a H
 refine k1 _ ?_;clear k1 K1
 replace H := H.keep [0, 1, 2] rfl
 refine sS H fun K2 k2=>sr 2 rfl <| sf fo_157_0 rfl <| sf fo_25_0 rfl <| sl S 0 one_3 rfl rfl rfl <| sr 1 rfl <| sd (does_mul rfl rfl (ht)) <| sr 1 rfl <| sd (does_add rfl rfl (ht2)) <| sr 1 rfl <| sE ?_;clear H a;intro a H
 refine k2 _ ?_;clear k2 K2
 refine wp_ret ?_
 refine ret1 (fn := Try.f89) rfl H rfl ?_
 exact ⟨rfl, (S.sel [0] rfl rfl)⟩

theorem net_levels (N : Net) (r : RM) (mv : Nat → Nat → Mv) (nb : Nat) (pl tk : Int) (st1 st2 : Value) (EA : Option Addr) (A : Nat → Option Addr) (c : Nat → Nat) (b x : Nat) (w : World) (F : Nat → Prop) (S : St w F [boxM nb 157 [.int .i64 pl, st1, st2, .int .i64 tk, .slice EA N.k N.k, .int .i64 (b : Int), .int .i64 (x : Int)], ownM 175 1 EA N.k N.k (hdc A N.n c), ragM 177 7 (fun q => q < N.k) A N.n c (edgeC N r mv)] w) (W : N.Wf) (hO : Ok N r 2199023255552) (hb : b < N.k) (hx : x < N.k) (hbx : b ≠ x) (hk : N.k ≤ 1000000) :
    Calls Try.prog 92 [.pointer (some ⟨nb, 0, none⟩)].toArray w (Ret (fun u w' => ∃ LA L, u = .slice LA N.k N.k ∧ LevOk N r b L ∧ St w F [ownM 3 1 LA N.k N.k (lcl L), boxM nb 157 [.int .i64 pl, st1, st2, .int .i64 tk, .slice EA N.k N.k, .int .i64 (b : Int), .int .i64 (x : Int)], ownM 175 1 EA N.k N.k (hdc A N.n c), ragM 177 7 (fun q => q < N.k) A N.n c (edgeC N r mv)] w')) := by
 refine enter Try.func92 rfl Try.ntmps92 rfl (fun a H => ?_)
 skip
 refine sS H fun K1 k1=>sr 1 rfl <| sE ?_;clear H a;intro a H
 refine k1 _ ?_;clear k1 K1
 refine seq_list fun K2 k2 => ?_
 refine list_build' H rfl S sl_23 sz_3 ze_3 rfl rfl rfl rfl rfl rfl rfl rfl rfl ?_;clear H a S;intro A1 _ a hA1 S H
 refine ls 5 H <| sr 2 rfl <| sf fo_157_2 rfl <| sl S 1 one_155 rfl rfl rfl <| sL sl_155 rfl <| sE ?_;clear H a;intro a H
 refine list_call H rfl rfl Try.func105 rfl rfl (w8slices_Repeat _ _ (-1) N.k _ ((ownM.inS S (i := 0) rfl).congr (fun k j hk hj => w8getD2 hk hj)) (by omega) (by omega)) ?_;clear H a
 rintro _ _ a ⟨lb, rfl, S2⟩ H
 replace S := S.call S2;clear S2
 refine ls 1 H <| sr 1 rfl <| sE ?_;clear H a;intro a H
 refine k2 _ _ ?_;clear k2 K2
 replace H := H.keep [0, 3] rfl
 refine seq_list fun K3 k3 => ?_
 refine ls 6 H <| sr 3 rfl <| sf fo_157_3 rfl <| sl S 2 one_3 rfl rfl rfl <| si sl_23 sz_3 rfl rfl (ownM.adr S (i := 0) rfl (by omega)) (by omega) <| sE ?_;clear H a;intro a H
 refine list_store_own H S (i := 0) rfl rfl rfl (by omega) (by omega) sz_3 rfl ?_
 clear H a S;intro _ a S H
 replace S := S.recell (i := 0) rfl (cell' := lcl (fun v => if v = b then 0 else -1)) (fun k j hk hj => lev0_put k j hj)
 refine k3 _ _ ?_;clear k3 K3
 replace H := H.keep [0, 3] rfl
 refine seq_list fun K4 k4 => ?_
 refine ls 4 H <| sr 2 rfl <| sf fo_157_3 rfl <| sl S 2 one_3 rfl rfl rfl <| sE ?_;clear H a;intro a H
 refine list_build' H rfl S sl_23 sz_3 ze_3 rfl rfl rfl rfl rfl rfl rfl rfl rfl ?_;clear H a S;intro A2 _ a hA2 S H
 replace S := queM.of_own S (i := 0) rfl (f := fun i => (((fun _ => b : Nat → Nat) (0 + i) : Nat) : Int)) (by omega) (fun k hk => w8getD2 hk (by omega))
 refine ls 1 H <| sr 1 rfl <| sE ?_;clear H a;intro a H
 refine k4 _ _ ?_;clear k4 K4
 refine wp_seq_k fun K5 k5 => ?_
 refine wp_block ?_
 refine loop_st (X := (Nat → Int) × (Nat → Nat) × Nat × Nat × Option Addr × Nat) (R0 := _) [0, 3] H rfl (fun ⟨L, qf, ql, h, QA, qc⟩ => [(4, .slice QA (ql - h) qc)]) (fun ⟨L, qf, ql, h, QA, qc⟩ => [ownM 3 1 (some ⟨lb, 0, none⟩) N.k N.k (lcl L), queM 3 QA (ql - h) qc (fun i => ((qf (h + i) : Nat) : Int))]) (fun g ⟨L, qf, ql, h, QA, qc⟩ => Bfs N r b L qf ql h 0 ∧ h ≤ ql ∧ g + h = N.k) (N.k) (fun v => if v = b then 0 else -1, fun _ => b, 1, 0, _, _) ?_ (S.sel [1, 0, 2, 3, 4, 5] rfl rfl) (H.keep [4, 0, 3] rfl) ?_
 · exact ⟨Bfs.start hb (fun _ _ => rfl) rfl, by omega, by omega⟩
 clear H S a
 intro g1 x1 a w1 hp S H K6 k6
 obtain ⟨L, qf, ql, h, QA, qc⟩ := x1
 dsimp only at hp S H
 obtain ⟨hB, hhq, hgh⟩ := hp
 have hql := hB.le
 refine wp_seq_k fun K7 k7 => ?_
 refine sS H fun K8 k8=>sr 1 rfl <| sL sl_23 rfl <| sr 1 rfl <| sE ?_;clear H a;intro a H
 refine k8 _ ?_;clear k8 K8
 refine condL H rfl (fun hc1 => ?_) (fun hc1 => ?_)
 ·skip
  refine wp_skip ?_
  refine k7 _ _ ?_
  refine wp_block ?_
  have hqk : qf h < N.k := (hB.mem h (by omega)).1
  refine sS H fun K9 k9=>sr 1 rfl <| sI sl_23 sz_3 rfl rfl (queM.adr S (i := 1) rfl) (by omega) (by omega) <| sd ((does_load one_3 rfl (queM.rd S (i := 1) (k := 0) rfl (by omega)) : Does _ _ _ _ (.int .i64 (qf h : Int)))) <| sr 1 rfl <| sE ?_;clear H a;intro a H
  refine k9 _ ?_;clear k9 K9
  have hqle := queM.le S (i := 1) rfl
  replace H := H.keep [0, 3, 4, 5] rfl
  refine sS H fun K10 k10=>sr 1 rfl <| sd (does_slice sl_23 sz_3 rfl (lo := 1) (hi := ql - h) (.inr ⟨_, rfl, _, rfl⟩) (.inl ⟨rfl, rfl⟩) (by omega) (by omega)) <| sr 1 rfl <| sE ?_;clear H a;intro a H
  refine k10 _ ?_;clear k10 K10
  replace S := queM.cut1 S (i := 1) rfl (by omega)
  replace H := H.keep [0, 3, 4, 5] rfl
  refine sS H fun K11 k11=>sr 2 rfl <| sf fo_157_2 rfl <| sl S 3 one_155 rfl rfl rfl <| sr 1 rfl <| si sl_155 sz_175 rfl rfl (ownM.adr S (i := 4) rfl (by omega)) (by omega) <| slm one_175 rfl (ownM.rd S (i := 4) rfl (by omega) (by omega)) <| sL sl_175 rfl <| sr 1 rfl <| sE ?_;clear H a;intro a H
  refine k11 _ ?_;clear k11 K11
  refine wp_block ?_
  replace S := queM.congr S (i := 1) rfl (f' := fun i => ((qf (h + 1 + i) : Nat) : Int)) (fun k hk => by (try dsimp only); rw [show h + 1 + k = h + (k + 1) by omega])
  rw [show ql - h - 1 = ql - (h + 1) by omega] at H S
  refine loop_st (X := (Nat → Int) × (Nat → Nat) × Nat × Nat × Option Addr × Nat) (R0 := _) [0, 3, 5, 40, 41] H rfl (fun ⟨L2, qf2, ql2, J, QA2, qc2⟩ => [(4, .slice QA2 (ql2 - (h + 1)) qc2), (42, .int .i64 (J : Int))]) (fun ⟨L2, qf2, ql2, J, QA2, qc2⟩ => [ownM 3 1 (some ⟨lb, 0, none⟩) N.k N.k (lcl L2), queM 3 QA2 (ql2 - (h + 1)) qc2 (fun i => ((qf2 (h + 1 + i) : Nat) : Int))]) (fun g ⟨L2, qf2, ql2, J, QA2, qc2⟩ => Bfs N r b L2 qf2 ql2 h J ∧ h < ql2 ∧ J ≤ N.n (qf h) ∧ g + J = N.n (qf h) ∧ qf2 h = qf h) (N.n (qf h)) (L, qf, ql, 0, _, _) ?_ (S.sel [0, 1, 2, 3, 4, 5] rfl rfl) (H.keep [4, 42, 0, 3, 5, 40, 41] rfl) ?_
  · exact ⟨hB, by omega, by omega, by omega, rfl⟩
  clear H S a
  intro g2 x2 a w2 hp S H K12 k12
  obtain ⟨L2, qf2, ql2, J, QA2, qc2⟩ := x2
  dsimp only at hp S H
  obtain ⟨hB2, hhq2, hJn, hgJ, hqe⟩ := hp
  have hql2 := hB2.le
  have hr2 := hB2.low
  refine sS H fun K13 k13=>sr 1 rfl <| sE ?_;clear H a;intro a H
  refine k13 _ ?_;clear k13 K13
  refine wp_seq_k fun K14 k14 => ?_
  refine condL H rfl (fun hc2 => ?_) (fun hc2 => ?_)
  ·skip
   refine wp_skip ?_
   refine k14 _ _ ?_
   refine wp_seq_k fun K15 k15 => ?_
   refine wp_block ?_
   have htk := W.to_lt (qf h) hqk J (by omega)
   have hnl := ragM.le S (i := 5) rfl hqk
   have hmx : maxLen = 9223372036854775807 := rfl
   refine seq_list fun K16 k16 => ?_
   refine ls 2 H <| si sl_175 sz_177 rfl rfl (ragM.adr S (i := 5) rfl hqk (by omega)) (by omega) <| sd ((does_loadOwn agg_177 sz_177 rfl (ragM.pull S (i := 5) rfl hqk) (i := 0) rfl (by omega) (by omega))) <| sE ?_;clear H a;intro a H
   refine list_alloc H rfl S ze_177 ?_;clear H a S;intro b7 _ a hb7 hbw7 S H
   refine list_store H S (i := 0) rfl rfl rfl rfl sz_177 rfl rfl ?_
   clear H a S;intro _ a S H
   refine k16 _ _ ?_;clear k16 K16
   replace H := H.keep [0, 3, 4, 5, 7, 40, 41, 42] rfl
   refine sS H fun K17 k17=>sf fo_177_1 rfl <| sl S 0 one_3 rfl rfl rfl <| sr 2 rfl <| sg 6 3 49 55 true rfl rfl (fun hg4 => sy hg4 <| sr 1 rfl <| sy hg4 <| sf fo_177_0 rfl <| sy hg4 <| sl S 0 one_3 rfl rfl rfl <| sy hg4 <| si sl_23 sz_3 rfl rfl (ownM.adr S (i := 1) rfl (by omega)) (by omega) <| sy hg4 <| slm one_3 rfl (ownM.rd S (i := 1) rfl (by omega) (by omega)) <| sy hg4 <| sr 1 rfl <| sz 6 rfl rfl rfl) <| sa rfl rfl rfl <| sE ?_;clear H a;intro a H
   refine k17 _ ?_;clear k17 K17
   refine cond_ H rfl (fun hc3 => ?_) (fun hc3 => ?_)
   ·skip
    try simp only [o1,o2,o3,o4,o5,o6,o7,o8,o9,oa] at hc3
    have hLu := (hB2.mem h (by omega)).2
    rw [hqe] at hLu
    replace H := H.keep [0, 3, 4, 5, 7, 40, 41, 42] rfl
    refine seq_tail 9 (by kernel_rfl) (by kernel_rfl) fun K18 k18 => ?_
    replace S := S.drew
    refine sF H <| sr 1 rfl <| sf fo_177_0 rfl <| sl S 0 one_3 rfl rfl rfl <| sr 2 rfl <| si sl_23 sz_3 rfl rfl (ownM.adr S (i := 1) rfl (by omega)) (by omega) <| slm one_3 rfl (ownM.rd S (i := 1) rfl (by omega) (by omega)) <| sd (does_add rfl rfl (by unfold i64ok; omega)) <| si sl_23 sz_3 rfl rfl (ownM.adr S (i := 1) rfl (by omega)) (by omega) <| sE ?_;clear H a;intro a H
    refine list_store_own H S (i := 1) rfl rfl rfl htk (by omega) sz_3 rfl ?_
    clear H a S;intro _ a S H
    replace S := S.recell (i := 1) rfl (cell' := lcl (upd L2 (N.to (qf h) J) (L2 (qf h) + 1))) (fun k j hk hj => lev_put k j hj)
    refine k18 _ _ ?_;clear k18 K18
    replace H := H.keep [0, 3, 4, 5, 7, 40, 41, 42] rfl
    refine one_list ?_
    refine ls 3 H <| sr 1 rfl <| sf fo_177_0 rfl <| sl S 0 one_3 rfl rfl rfl <| sE ?_;clear H a;intro a H
    refine list_build' H rfl S sl_23 sz_3 ze_3 rfl rfl rfl rfl rfl rfl rfl rfl rfl ?_;clear H a S;intro A3 _ a hA3 S H
    refine list_push H rfl S sl_23 sz_3 ze_3 by_3 rfl (i := 3) rfl rfl rfl (ownM.inS S (i := 0) rfl) (v := ((N.to (qf h) J : Nat) : Int)) rfl (by omega) (by omega) ?_;clear H a S;intro QA3 qc3 _ a S H
    replace S := queM.congr S (i := 3) rfl (f' := fun i => ((upd qf2 ql2 (N.to (qf h) J) (h + 1 + i) : Nat) : Int)) (fun k hk => q_put (by omega) k hk)
    rw [show ql2 - (h + 1) + 1 = ql2 + 1 - (h + 1) by omega] at H S
    refine ls 1 H <| sr 1 rfl <| sE ?_;clear H a;intro a H
    refine k15 _ _ ?_
    refine sO H <| sd (does_add rfl rfl (by unfold i64ok; omega)) <| sr 1 rfl <| sE ?_;clear H a;intro a H
    exact k12 (g2 - 1) (_, _, _, J + 1, _, _) a _ (by omega) (by first | exact ⟨(by have := hB2.visit W hhq2 (by rw [hqe]; omega) (by rw [hqe]; exact hc3.1) (by rw [hqe]; exact hc3.2); rw [hqe] at this; exact this), by omega, by omega, by omega, by rw [upd_ne _ _ (by omega)]; exact hqe⟩ | exact ⟨hB2.skip (by rw [hqe]; intro h9; omega), hhq2, by omega, by omega, hqe⟩) (S.sel [2, 3, 4, 5, 6, 7] rfl rfl) (H.keep [4, 42, 0, 3, 5, 40, 41] rfl)
   try simp only [o1,o2,o3,o4,o5,o6,o7,o8,o9,oa] at hc3
   refine wp_skip ?_
   refine k15 _ _ ?_
   replace H := H.keep [0, 3, 4, 5, 40, 41, 42] rfl
   refine sO H <| sd (does_add rfl rfl (by unfold i64ok; omega)) <| sr 1 rfl <| sE ?_;clear H a;intro a H
   exact k12 (g2 - 1) (_, _, _, J + 1, _, _) a _ (by omega) (by first | exact ⟨(by have := hB2.visit W hhq2 (by rw [hqe]; omega) (by rw [hqe]; exact hc3.1) (by rw [hqe]; exact hc3.2); rw [hqe] at this; exact this), by omega, by omega, by omega, by rw [upd_ne _ _ (by omega)]; exact hqe⟩ | exact ⟨hB2.skip (by rw [hqe]; intro h9; omega), hhq2, by omega, by omega, hqe⟩) (S.sel [1, 2, 3, 4, 5, 6] rfl rfl) (H.keep [4, 42, 0, 3, 5, 40, 41] rfl)
  refine wp_exit ?_
  exact k6 (g1 - 1) (L2, qf2, ql2, h + 1, QA2, qc2) a _ (by omega) (⟨hB2.next (by rw [hqe]; omega), by omega, by omega⟩) (S.sel [0, 1, 2, 3, 4, 5] rfl rfl) (H.keep [4, 0, 3] rfl)
 refine wp_exit ?_
 refine k5 _ _ ?_
 refine sS H fun K22 k22=>sr 2 rfl <| sE ?_;clear H a;intro a H
 refine k22 _ ?_;clear k22 K22
 refine wp_ret ?_
 refine ret1 (fn := Try.f92) rfl H rfl ?_
 exact ⟨_, L, rfl, hB.done (by omega), (S.sel [0, 3, 4, 5] rfl rfl)⟩

end Go.Proofs.Ytopmadlgolnmfaa
