/- ChB. Printed by gen.py. -/
import Derived.Test.YtdepakimbagonaaChA
import Derived.Test.YtdepakimbagonaaF1
import Derived.Test.YtdepakimbagonaaShelf
namespace Go.Proofs.Ytdepakimbagonaa
open Go.RowKit
set_option linter.unusedVariables false
set_option linter.unusedSimpArgs false
set_option maxRecDepth 100000
set_option maxHeartbeats 4000000


theorem web_tighten (n cw : Nat) (W : Option Addr) (rb rc : Nat → Nat) (M : IM) (i j : Nat) (lo hi : Int) (w : World) (F : Nat → Prop) (S : St w F [ownM 25 1 W n cw (fun i _ => rowv rb rc n i), rowsM 3 n n rb rc (M)] w) (hin : i < n) (hjn : j < n) (hn : n ≤ 1000) (hM : bdd n 2199023255552 M) (hlo : -2199023255552 ≤ lo ∧ lo ≤ 2199023255552) (hhi : -2199023255552 ≤ hi ∧ hi ≤ 2199023255552) :
    Calls Try.prog 75 [.slice W n cw, .int .i64 (i : Int), .int .i64 (j : Int), .agg [.int .i64 lo, .int .i64 hi].toArray].toArray w (Ret (fun v w' => v = .bool (diagB n (tightM M i j lo hi)) ∧ St w F [ownM 25 1 W n cw (fun i _ => rowv rb rc n i), rowsM 3 n n rb rc (tightM M i j lo hi)] w')) := by
 refine enter Try.func75 rfl Try.ntmps75 rfl (fun a H => ?_)
 skip
 refine seq_list fun K1 k1 => ?_
 refine list_box H rfl S rfl rfl ?_;clear H a S;intro b7 _ a hb7 hbw7 S H
 refine ls 1 H <| sr 1 rfl <| sE ?_;clear H a;intro a H
 refine k1 _ _ ?_;clear k1 K1
 refine wp_seq_k fun K2 k2 => ?_
 replace H := H.keep [0, 1, 2, 7] rfl
 refine sS H fun K3 k3=>sr 2 rfl <| sf fo_36_1 rfl <| sl S 0 one_3 rfl rfl rfl <| sd (does_build bt_169 rfl rfl) <| sr 2 rfl <| sf fo_36_0 rfl <| sl S 0 one_3 rfl rfl rfl <| sd (does_neg rfl (by unfold i64ok; omega)) <| sd (does_build bt_169 rfl rfl) <| sd (does_build bt_170 rfl rfl) <| sr 1 rfl <| sE ?_;clear H a;intro a H
 refine k3 _ ?_;clear k3 K3
 refine wp_block ?_
 refine loop_st (X := Nat) (R0 := _) [0, 28] H rfl (fun k => [(29, .int .i64 (k : Int))]) (fun k => [rowsM 3 n n rb rc (arcs M i j lo hi k)]) (fun g k => k ≤ 2 ∧ g + k = 2) (2) 0 ?_ (S.sel [2, 0, 1] rfl rfl) (H.keep [29, 0, 28] rfl) ?_
 · exact ⟨by omega, by omega⟩
 clear H S a
 intro g1 x1 a w1 hp S H K4 k4
 obtain ⟨k, rfl⟩ : ∃ y, y = x1 := ⟨_, rfl⟩
 have hk2 : k ≤ 2 := hp.1
 have hxa : xa i j k < n := by unfold xa; split <;> omega
 have hxb : xb i j k < n := by unfold xb; split <;> omega
 have hxf : -2199023255552 ≤ xf lo hi k ∧ xf lo hi k ≤ 2199023255552 := by unfold xf; split <;> omega
 refine sS H fun K5 k5=>sr 1 rfl <| sE ?_;clear H a;intro a H
 refine k5 _ ?_;clear k5 K5
 refine wp_seq_k fun K6 k6 => ?_
 refine condL H rfl (fun hc1 => ?_) (fun hc1 => ?_)
 ·skip
  have hA := arcs_bd hM hin hjn (lo := lo) hhi k (by omega)
  refine wp_skip ?_
  refine k6 _ _ ?_
  refine wp_seq_k fun K7 k7 => ?_
  refine wp_block ?_
  refine seq_list fun K8 k8 => ?_
  refine ls 1 H <| sd (does_indexVA Try.underlying170 sz_169 agg_169 rfl rfl (by omega) (by omega) (xcut i j k lo hi (by omega))) <| sE ?_;clear H a;intro a H
  refine list_alloc H rfl S ze_169 ?_;clear H a S;intro b10 _ a hb10 hbw10 S H
  refine list_store H S (i := 0) rfl rfl rfl rfl sz_169 rfl rfl ?_
  clear H a S;intro _ a S H
  refine k8 _ _ ?_;clear k8 K8
  replace H := H.keep [0, 10, 28, 29] rfl
  replace S := S.drew
  refine sD H fun K9 k9=>sd (does_indexArr Try.underlying169 sz_3 rfl rfl (by omega) (by omega)) <| sl S 0 one_3 rfl rfl rfl <| sd (does_indexArr Try.underlying169 sz_3 rfl rfl (by omega) (by omega)) <| sl S 0 one_3 rfl rfl rfl <| sd (does_indexArr Try.underlying169 sz_3 rfl rfl (by omega) (by omega)) <| sl S 0 one_3 rfl rfl rfl <| sr 3 rfl <| sE ?_;clear H a;intro a H
  refine k9 _ ?_;clear k9 K9
  refine wp_seq_k fun K10 k10 => ?_
  have hv0 := hA (xa i j k) (xb i j k) hxa hxb
  replace H := H.keep [0, 11, 12, 13, 28, 29] rfl
  refine sS H fun K11 k11=>sr 2 rfl <| si sl_99 sz_25 rfl rfl (ownM.adr S (i := 3) rfl (by omega)) (by omega) <| slm one_25 rfl (ownM.rd S (i := 3) rfl (by omega) (by omega)) <| sr 1 rfl <| si sl_25 sz_3 rfl rfl (rfl) (by omega) <| slm one_3 rfl (rowsM.rd S (i := 1) rfl (by omega) (by omega)) <| sr 2 rfl <| sE ?_;clear H a;intro a H
  refine k11 _ ?_;clear k11 K11
  refine condG H rfl (fun hc2 => ?_) (fun hc2 => ?_)
  ·skip
   refine wp_exit ?_
   refine k7 _ _ ?_
   replace H := H.keep [0, 28, 29] rfl
   refine sO H <| sd (does_add rfl rfl (by unfold i64ok; omega)) <| sr 1 rfl <| sE ?_;clear H a;intro a H
   replace S := rowsM.congr S (i := 1) (M' := arcs M i j lo hi (k + 1)) rfl (fun x y hx hy => by rw [arcs_succ _ _ _ _ _ _ (by omega)]; unfold arc; first | rw [if_pos (by omega)] | (rw [if_neg (by omega)]; rw [show p = n by omega]; exact stg_all _ _ _ _ _ _ _ hx)) (fun _ _ => rfl) (fun _ _ => rfl)
   exact k4 (g1 - 1) (k + 1) a _ (by omega) (by omega) (S.sel [1, 2, 3] rfl rfl) (H.keep [29, 0, 28] rfl)
  refine wp_skip ?_
  refine k10 _ _ ?_
  refine sS H fun K13 k13=>sr 1 rfl <| sL sl_99 rfl <| sr 1 rfl <| sE ?_;clear H a;intro a H
  refine k13 _ ?_;clear k13 K13
  refine wp_block ?_
  replace S := rowsM.congr S (i := 1) (M' := stg (arcs M i j lo hi k) (xa i j k) (xb i j k) (xf lo hi k) 0 0) rfl (fun x y hx hy => (stg_zero _ _ _ _ _ _).symm) (fun _ _ => rfl) (fun _ _ => rfl)
  refine loop_st (X := Nat) (R0 := _) [0, 11, 12, 13, 28, 29, 48] H rfl (fun p => [(49, .int .i64 (p : Int))]) (fun p => [rowsM 3 n n rb rc (stg (arcs M i j lo hi k) (xa i j k) (xb i j k) (xf lo hi k) p 0)]) (fun g p => p ≤ n ∧ g + p = n) (n) 0 ?_ (S.sel [1, 0, 2, 3] rfl rfl) (H.keep [49, 0, 11, 12, 13, 28, 29, 48] rfl) ?_
  · exact ⟨by omega, by omega⟩
  clear H S a
  intro g2 x2 a w2 hp S H K14 k14
  obtain ⟨p, rfl⟩ : ∃ y, y = x2 := ⟨_, rfl⟩
  refine sS H fun K15 k15=>sr 1 rfl <| sE ?_;clear H a;intro a H
  refine k15 _ ?_;clear k15 K15
  refine wp_seq_k fun K16 k16 => ?_
  refine condL H rfl (fun hc3 => ?_) (fun hc3 => ?_)
  ·skip
   refine wp_skip ?_
   refine k16 _ _ ?_
   refine wp_seq_k fun K17 k17 => ?_
   refine wp_block ?_
   refine sS H fun K18 k18=>sr 2 rfl <| sE ?_;clear H a;intro a H
   refine k18 _ ?_;clear k18 K18
   refine sS H fun K19 k19=>sr 1 rfl <| sL sl_99 rfl <| sr 1 rfl <| sE ?_;clear H a;intro a H
   refine k19 _ ?_;clear k19 K19
   refine wp_block ?_
   refine loop_st (X := Nat) (R0 := _) [0, 11, 12, 13, 14, 28, 29, 48, 49, 53] H rfl (fun q => [(54, .int .i64 (q : Int))]) (fun q => [rowsM 3 n n rb rc (stg (arcs M i j lo hi k) (xa i j k) (xb i j k) (xf lo hi k) p q)]) (fun g q => q ≤ n ∧ g + q = n) (n) 0 ?_ (S.sel [0, 1, 2, 3] rfl rfl) (H.keep [54, 0, 11, 12, 13, 14, 28, 29, 48, 49, 53] rfl) ?_
   · exact ⟨by omega, by omega⟩
   clear H S a
   intro g3 x3 a w3 hp S H K20 k20
   obtain ⟨q, rfl⟩ : ∃ y, y = x3 := ⟨_, rfl⟩
   have hbd := stg_bd hA hxa hxb (far := xf lo hi k) (by omega) p q
   refine sS H fun K21 k21=>sr 1 rfl <| sE ?_;clear H a;intro a H
   refine k21 _ ?_;clear k21 K21
   refine wp_seq_k fun K22 k22 => ?_
   refine condL H rfl (fun hc4 => ?_) (fun hc4 => ?_)
   ·skip
    refine wp_skip ?_
    refine k22 _ _ ?_
    refine wp_seq_k fun K23 k23 => ?_
    refine wp_block ?_
    refine sS H fun K24 k24=>sr 2 rfl <| sE ?_;clear H a;intro a H
    refine k24 _ ?_;clear k24 K24
    have hv1 := hbd p (xa i j k) (by omega) hxa; have hv2 := hbd (xb i j k) q hxb (by omega)
    replace H := H.keep [0, 11, 12, 13, 14, 15, 28, 29, 48, 49, 53, 54] rfl
    refine one_tail 31 (by kernel_rfl) (by kernel_rfl) ?_
    replace S := S.drew
    refine sF H <| sr 2 rfl <| si sl_99 sz_25 rfl rfl (ownM.adr S (i := 3) rfl (by omega)) (by omega) <| slm one_25 rfl (ownM.rd S (i := 3) rfl (by omega) (by omega)) <| sr 3 rfl <| si sl_99 sz_25 rfl rfl (ownM.adr S (i := 3) rfl (by omega)) (by omega) <| slm one_25 rfl (ownM.rd S (i := 3) rfl (by omega) (by omega)) <| sr 1 rfl <| si sl_25 sz_3 rfl rfl (rfl) (by omega) <| slm one_3 rfl (rowsM.rd S (i := 0) rfl (by omega) (by omega)) <| sr 2 rfl <| si sl_99 sz_25 rfl rfl (ownM.adr S (i := 3) rfl (by omega)) (by omega) <| slm one_25 rfl (ownM.rd S (i := 3) rfl (by omega) (by omega)) <| sr 1 rfl <| si sl_25 sz_3 rfl rfl (rfl) (by omega) <| slm one_3 rfl (rowsM.rd S (i := 0) rfl (by omega) (by omega)) <| sr 1 rfl <| sd (does_add rfl rfl (by unfold i64ok; omega)) <| sr 2 rfl <| si sl_99 sz_25 rfl rfl (ownM.adr S (i := 3) rfl (by omega)) (by omega) <| slm one_25 rfl (ownM.rd S (i := 3) rfl (by omega) (by omega)) <| sr 1 rfl <| si sl_25 sz_3 rfl rfl (rfl) (by omega) <| slm one_3 rfl (rowsM.rd S (i := 0) rfl (by omega) (by omega)) <| sd (does_add rfl rfl (by unfold i64ok; omega)) <| sd (does_min rfl rfl) <| si sl_25 sz_3 rfl rfl (rfl) (by omega) <| sE ?_;clear H a;intro a H
    refine list_store_row H S (i := 0) rfl rfl rfl (by omega) (by omega) sz_3 ?_
    clear H a S;intro _ a S H
    replace S := rowsM.congr S (i := 0) (M' := stg (arcs M i j lo hi k) (xa i j k) (xb i j k) (xf lo hi k) p (q + 1)) rfl (fun x y hx hy => by rw [stg_new]; exact stg_step _ _ _ _ _ _ _ _) (fun _ _ => rfl) (fun _ _ => rfl)
    refine k23 _ _ ?_
    replace H := H.keep [0, 11, 12, 13, 14, 28, 29, 48, 49, 53, 54] rfl
    refine sO H <| sd (does_add rfl rfl (by unfold i64ok; omega)) <| sr 1 rfl <| sE ?_;clear H a;intro a H
    exact k20 (g3 - 1) (q + 1) a _ (by omega) (by omega) (S.sel [0, 1, 2, 3] rfl rfl) (H.keep [54, 0, 11, 12, 13, 14, 28, 29, 48, 49, 53] rfl)
   refine wp_exit ?_
   refine k17 _ _ ?_
   refine sO H <| sd (does_add rfl rfl (by unfold i64ok; omega)) <| sr 1 rfl <| sE ?_;clear H a;intro a H
   replace S := rowsM.congr S (i := 0) (M' := stg (arcs M i j lo hi k) (xa i j k) (xb i j k) (xf lo hi k) (p + 1) 0) rfl (fun x y hx hy => by rw [show q = n by omega]; exact stg_row _ _ _ _ _ _ _ _ hy) (fun _ _ => rfl) (fun _ _ => rfl)
   exact k14 (g2 - 1) (p + 1) a _ (by omega) (by omega) (S.sel [0, 1, 2, 3] rfl rfl) (H.keep [49, 0, 11, 12, 13, 28, 29, 48] rfl)
  refine wp_exit ?_
  refine k7 _ _ ?_
  refine sO H <| sd (does_add rfl rfl (by unfold i64ok; omega)) <| sr 1 rfl <| sE ?_;clear H a;intro a H
  replace S := rowsM.congr S (i := 0) (M' := arcs M i j lo hi (k + 1)) rfl (fun x y hx hy => by rw [arcs_succ _ _ _ _ _ _ (by omega)]; unfold arc; first | rw [if_pos (by omega)] | (rw [if_neg (by omega)]; rw [show p = n by omega]; exact stg_all _ _ _ _ _ _ _ hx)) (fun _ _ => rfl) (fun _ _ => rfl)
  exact k4 (g1 - 1) (k + 1) a _ (by omega) (by omega) (S.sel [0, 2, 3] rfl rfl) (H.keep [29, 0, 28] rfl)
 refine wp_exit ?_
 refine k2 _ _ ?_
 refine wp_seq_k fun K29 k29 => ?_
 refine sS H fun K30 k30=>sr 1 rfl <| sL sl_99 rfl <| sr 1 rfl <| sE ?_;clear H a;intro a H
 refine k30 _ ?_;clear k30 K30
 refine wp_block ?_
 replace S := rowsM.congr S (i := 0) (M' := tightM M i j lo hi) rfl (fun x y hx hy => by rw [show k = 2 by omega]; rfl) (fun _ _ => rfl) (fun _ _ => rfl)
 refine loop_st (X := Nat) (R0 := _) [0, 92] H rfl (fun r => [(93, .int .i64 (r : Int))]) (fun r => []) (fun g r => r ≤ n ∧ g + r = n ∧ (List.range r).all (fun q => decide (0 ≤ (tightM M i j lo hi) q q)) = true) (n) 0 ?_ (S.sel [0, 1, 2] rfl rfl) (H.keep [93, 0, 92] rfl) ?_
 · exact ⟨by omega, by omega, rfl⟩
 clear H S a
 intro g4 x4 a w4 hp S H K31 k31
 obtain ⟨r, rfl⟩ : ∃ y, y = x4 := ⟨_, rfl⟩
 refine sS H fun K32 k32=>sr 1 rfl <| sE ?_;clear H a;intro a H
 refine k32 _ ?_;clear k32 K32
 refine wp_seq_k fun K33 k33 => ?_
 refine condL H rfl (fun hc5 => ?_) (fun hc5 => ?_)
 ·skip
  refine wp_skip ?_
  refine k33 _ _ ?_
  refine wp_seq_k fun K34 k34 => ?_
  refine wp_block ?_
  refine sS H fun K35 k35=>sr 2 rfl <| sE ?_;clear H a;intro a H
  refine k35 _ ?_;clear k35 K35
  replace H := H.keep [0, 16, 92, 93] rfl
  refine sS H fun K36 k36=>sr 2 rfl <| si sl_99 sz_25 rfl rfl (ownM.adr S (i := 2) rfl (by omega)) (by omega) <| slm one_25 rfl (ownM.rd S (i := 2) rfl (by omega) (by omega)) <| sr 1 rfl <| si sl_25 sz_3 rfl rfl (rfl) (by omega) <| slm one_3 rfl (rowsM.rd S (i := 0) rfl (by omega) (by omega)) <| sr 1 rfl <| sE ?_;clear H a;intro a H
  refine k36 _ ?_;clear k36 K36
  refine condL H rfl (fun hc6 => ?_) (fun hc6 => ?_)
  ·skip
   refine sS H fun K37 k37=>sr 1 rfl <| sE ?_;clear H a;intro a H
   refine k37 _ ?_;clear k37 K37
   refine wp_ret ?_
   refine ret1 (fn := Try.f75) rfl H rfl ?_
   exact ⟨by unfold diagB; rw [range_all_false (k := r) (by omega) (by simp only [decide_eq_false_iff_not]; omega)], (S.sel [2, 0] rfl rfl)⟩
  refine wp_skip ?_
  refine k34 _ _ ?_
  replace H := H.keep [0, 92, 93] rfl
  refine sO H <| sd (does_add rfl rfl (by unfold i64ok; omega)) <| sr 1 rfl <| sE ?_;clear H a;intro a H
  exact k31 (g4 - 1) (r + 1) a _ (by omega) (⟨by omega, by omega, by rw [range_all_succ (n := 0), hp.2.2]; simp only [Bool.true_and, decide_eq_true_eq]; omega⟩) (S.sel [0, 1, 2] rfl rfl) (H.keep [93, 0, 92] rfl)
 refine wp_exit ?_
 refine k29 _ _ ?_
 refine sS H fun K39 k39=>sr 1 rfl <| sE ?_;clear H a;intro a H
 refine k39 _ ?_;clear k39 K39
 refine wp_ret ?_
 refine ret1 (fn := Try.f75) rfl H rfl ?_
 exact ⟨(by unfold diagB; rw [← (by omega : r = n), hp.2.2]), (S.sel [2, 0] rfl rfl)⟩

end Go.Proofs.Ytdepakimbagonaa
