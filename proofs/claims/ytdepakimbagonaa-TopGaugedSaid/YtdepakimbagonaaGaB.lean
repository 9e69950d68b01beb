/- GaB. Printed by gen.py. -/
import Derived.Test.YtdepakimbagonaaGaA
namespace Go.Proofs.Ytdepakimbagonaa
open Go.RowKit
set_option linter.unusedVariables false
set_option linter.unusedSimpArgs false
set_option maxRecDepth 100000
set_option maxHeartbeats 4000000


def comL (l : List Rdg) : Nat → Int
  | 0 => -1099511627776
  | k + 1 => max (comL l k) ((l.getD k Rdg.zero).says - wideI (l.getD k Rdg.zero))
def comH (l : List Rdg) : Nat → Int
  | 0 => 1099511627776
  | k + 1 => min (comH l k) ((l.getD k Rdg.zero).says + wideI (l.getD k Rdg.zero))
theorem rd_bd {r : Rdg} (h : rdOk r = true) : (-100000 ≤ r.says ∧ r.says ≤ 100000) ∧ (0 ≤ r.err ∧ r.err ≤ 1000) ∧ (0 ≤ r.drift * r.days ∧ r.drift * r.days ≤ 1000000) := by
  unfold rdOk at h
  simp only [decide_eq_true_eq] at h
  have h1 := Int.mul_nonneg h.2.2.1.1 h.2.2.2.1
  have h2 : r.drift * r.days ≤ 1000 * 1000 := Int.mul_le_mul h.2.2.1.2 h.2.2.2.2 h.2.2.2.1 (by decide)
  exact ⟨h.1, h.2.1, h1, by omega⟩
theorem rd_at {l : List Rdg} {k : Nat} (h : l.all rdOk = true) (hk : k < l.length) : rdOk (l.getD k Rdg.zero) = true := by
  rw [List.getD_eq_getElem?_getD, List.getElem?_eq_getElem hk]
  exact List.all_eq_true.1 h _ (List.getElem_mem hk)


theorem rten_Allows (r : Rdg) (w : World) (hr : rdOk r = true) :
    Calls Try.prog 29 [.agg [.int .i64 r.says, .int .i64 r.err, .int .i64 r.drift, .int .i64 r.days].toArray].toArray w (Ret (fun u w' => u = .agg [.int .i64 (r.says - wideI r), .int .i64 (r.says + wideI r)].toArray ∧ St w noF [] w')) := by
 have hrb := rd_bd hr
 have hwd : wideI r = r.err + r.drift * r.days := rfl
 refine enter Try.func29 rfl Try.ntmps29 rfl (fun a H => ?_)
 have S := St.start w
 refine seq_list fun K1 k1 => ?_
 refine list_box H rfl S rfl rfl ?_;clear H a S;intro b1 _ a hb1 hbw1 S H
 refine list_alloc H rfl S ze_36 ?_;clear H a S;intro b2 _ a hb2 hbw2 S H
 refine k1 _ _ ?_;clear k1 K1
 replace H := H.keep [1, 2] rfl
 refine sS H fun K2 k2=>sf fo_95_1 rfl <| sl S 1 one_3 rfl rfl rfl <| sf fo_95_2 rfl <| sl S 1 one_3 rfl rfl rfl <| sf fo_95_3 rfl <| sl S 1 one_3 rfl rfl rfl <| sd (does_mul rfl rfl (by unfold i64ok; omega)) <| sd (does_add rfl rfl (by unfold i64ok; omega)) <| sr 1 rfl <| sE ?_;clear H a;intro a H
 refine k2 _ ?_;clear k2 K2
 replace H := H.keep [1, 2, 3] rfl
 refine seq_list fun K3 k3 => ?_
 refine ls 9 H <| sf fo_95_0 rfl <| sl S 1 one_3 rfl rfl rfl <| sr 1 rfl <| sd (does_sub rfl rfl (by unfold i64ok; omega)) <| sf fo_95_0 rfl <| sl S 1 one_3 rfl rfl rfl <| sr 1 rfl <| sd (does_add rfl rfl (by unfold i64ok; omega)) <| sd (does_build bt_36 rfl rfl) <| sE ?_;clear H a;intro a H
 refine list_store H S (i := 0) rfl rfl rfl rfl sz_36 rfl rfl ?_
 clear H a S;intro _ a S H
 refine k3 _ _ ?_;clear k3 K3
 refine wp_ret ?_
 refine retA (fn := Try.f29) rfl H rfl agg_36 (by exact sz_36) (boxAgg S (i := 0) rfl) ?_
 exact ⟨rfl, (S.sel [] rfl rfl)⟩

theorem fau_common (l : List Rdg) (A : Option Addr) (cp : Nat) (w : World) (hl : InS w noF 4 A l.length (rdcell l)) (hn : l.length ≤ 12) (hok : l.all rdOk = true) :
    Calls Try.prog 31 [.slice A l.length cp, .int .i64 0].toArray w (Ret (fun u w' => u = .tuple #[.agg [.int .i64 (comL l l.length), .int .i64 (comH l l.length)].toArray, .bool (decide (comL l l.length ≤ comH l l.length))] ∧ St w noF [] w')) := by
 refine enter Try.func31 rfl Try.ntmps31 rfl (fun a H => ?_)
 have S := St.start w
 refine seq_list fun K1 k1 => ?_
 refine list_alloc H rfl S ze_36 ?_;clear H a S;intro b4 _ a hb4 hbw4 S H
 refine ls 1 H <| sr 1 rfl <| sE ?_;clear H a;intro a H
 refine k1 _ _ ?_;clear k1 K1
 refine seq_list fun K2 k2 => ?_
 refine ls 1 H <| sd (does_build bt_36 rfl rfl) <| sE ?_;clear H a;intro a H
 refine list_alloc H rfl S ze_36 ?_;clear H a S;intro b6 _ a hb6 hbw6 S H
 refine list_store H S (i := 0) rfl rfl rfl rfl sz_36 rfl rfl ?_
 clear H a S;intro _ a S H
 refine k2 _ _ ?_;clear k2 K2
 refine wp_seq_k fun K3 k3 => ?_
 refine sS H fun K4 k4=>sr 1 rfl <| sL sl_26 rfl <| sr 1 rfl <| sE ?_;clear H a;intro a H
 refine k4 _ ?_;clear k4 K4
 refine wp_block ?_
 refine loop_st (X := Nat) (R0 := _) [1, 4, 6, 11, 12] H rfl (fun k => [(13, .int .i64 (k : Int))]) (fun k => [boxM b6 36 [.int .i64 (comL l k), .int .i64 (comH l k)]]) (fun g k => k ≤ l.length ∧ g + k = l.length) (l.length) 0 ?_ (S.sel [0, 1] rfl rfl) (H.keep [13, 1, 4, 6, 11, 12] rfl) ?_
 · exact ⟨by omega, by omega⟩
 clear H S a
 intro g1 x1 a w1 hp S H K5 k5
 obtain ⟨k, rfl⟩ : ∃ y, y = x1 := ⟨_, rfl⟩
 refine sS H fun K6 k6=>sr 1 rfl <| sE ?_;clear H a;intro a H
 refine k6 _ ?_;clear k6 K6
 refine wp_seq_k fun K7 k7 => ?_
 refine condL H rfl (fun hc1 => ?_) (fun hc1 => ?_)
 ·skip
  refine wp_skip ?_
  refine k7 _ _ ?_
  refine wp_seq_k fun K8 k8 => ?_
  refine wp_block ?_
  refine seq_list fun K9 k9 => ?_
  refine ls 3 H <| sr 1 rfl <| si sl_26 sz_95 rfl rfl (hl.adr (by omega)) (by omega) <| sd ((does_loadIn agg_95 sz_95 rfl S hl (by omega) (by omega))) <| sE ?_;clear H a;intro a H
  refine list_alloc H rfl S ze_95 ?_;clear H a S;intro b8 _ a hb8 hbw8 S H
  refine ls 1 H <| sr 1 rfl <| sE ?_;clear H a;intro a H
  refine list_store H S (i := 0) rfl rfl rfl rfl sz_95 rfl rfl ?_
  clear H a S;intro _ a S H
  refine k9 _ _ ?_;clear k9 K9
  replace H := H.keep [1, 4, 6, 7, 8, 11, 12, 13] rfl
  refine sS H fun K10 k10=>sr 2 rfl <| sd (does_shr rfl rfl (by omega) (by omega)) <| sd (does_and1 rfl rfl) <| sr 1 rfl <| sE ?_;clear H a;intro a H
  refine k10 _ ?_;clear k10 K10
  refine cond_ H rfl (fun hc2 => ?_) (fun hc2 => ?_)
  ·skip
   skip
   have hrb := rd_bd (rd_at hok (show k < l.length by omega))
   replace H := H.keep [1, 4, 6, 8, 11, 12, 13] rfl
   refine sS H fun K11 k11=>sf fo_95_1 rfl <| sl S 0 one_3 rfl rfl rfl <| sf fo_95_2 rfl <| sl S 0 one_3 rfl rfl rfl <| sf fo_95_3 rfl <| sl S 0 one_3 rfl rfl rfl <| sd (does_mul rfl rfl (by unfold i64ok; omega)) <| sd (does_add rfl rfl (by unfold i64ok; omega)) <| sr 1 rfl <| sE ?_;clear H a;intro a H
   refine k11 _ ?_;clear k11 K11
   replace H := H.keep [1, 4, 6, 8, 9, 11, 12, 13] rfl
   refine one_list ?_
   refine ls 15 H <| sf fo_36_0 rfl <| sl S 1 one_3 rfl rfl rfl <| sf fo_95_0 rfl <| sl S 0 one_3 rfl rfl rfl <| sr 1 rfl <| sd (does_sub rfl rfl (by unfold i64ok; omega)) <| sd (does_max rfl rfl) <| sf fo_36_1 rfl <| sl S 1 one_3 rfl rfl rfl <| sf fo_95_0 rfl <| sl S 0 one_3 rfl rfl rfl <| sr 1 rfl <| sd (does_add rfl rfl (by unfold i64ok; omega)) <| sd (does_min rfl rfl) <| sd (does_build bt_36 rfl rfl) <| sE ?_;clear H a;intro a H
   refine list_store H S (i := 1) rfl rfl rfl rfl sz_36 rfl rfl ?_
   clear H a S;intro _ a S H
   refine k8 _ _ ?_
   replace H := H.keep [1, 4, 6, 11, 12, 13] rfl
   refine sO H <| sd (does_add rfl rfl (by unfold i64ok; omega)) <| sr 1 rfl <| sE ?_;clear H a;intro a H
   exact k5 (g1 - 1) (k + 1) a _ (by omega) (⟨by omega, by omega⟩) (S.sel [1, 2] rfl rfl) (H.keep [13, 1, 4, 6, 11, 12] rfl)
  skip
  exfalso; revert hc2; simp
 refine wp_exit ?_
 refine k3 _ _ ?_
 replace H := H.keep [4, 6] rfl
 replace S := S.drew
 refine seq_wq [(0, true), (1, true), (2, true), (3, true), (4, true), (5, true), (6, false), (7, true)] (by kernel_rfl) (by kernel_rfl) (S.sel [0] rfl rfl) fun K14 k14 => ?_
 refine qF H <| qd rfl (fun _ S => (does_loadBox agg_36 sz_36 rfl S (i := 0) rfl rfl)) <| qd rfl (fun _ S => (does_field fo_36_0 rfl)) <| qd rfl (fun _ S => does_load one_3 rfl (boxM.rd S (i := 0) rfl rfl)) <| qd rfl (fun _ S => (does_field fo_36_1 rfl)) <| qd rfl (fun _ S => does_load one_3 rfl (boxM.rd S (i := 0) rfl rfl)) <| qr 1 rfl <| qK ?_;clear H a;intro a H
 refine wq_eff rfl ?_
 refine list_store H S (i := 1) rfl rfl rfl rfl sz_36 rfl rfl ?_
 clear H a S;intro _ a S H
 refine wpList_nil (And.intro (S.sel [0] rfl rfl) ?_)
 refine qF H <| qr 1 rfl <| qK ?_;clear H a;intro a H
 refine wq_nil ?_
 refine k14 _ _ ?_
 clear k14 K14
 refine wp_ret ?_
 refine retA1 (fn := Try.f31) rfl H rfl agg_36 (by exact sz_36) (boxAgg S (i := 1) rfl) rfl ?_
 obtain rfl : k = l.length := by omega
 exact ⟨rfl, (S.sel [] rfl rfl)⟩

end Go.Proofs.Ytdepakimbagonaa
