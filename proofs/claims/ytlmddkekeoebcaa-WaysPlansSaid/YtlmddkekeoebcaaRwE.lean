/- RwE. Printed by gen.py. -/
import Derived.Test.YtlmddkekeoebcaaRwD
import Derived.Test.YtlmddkekeoebcaaE5
namespace Go.Proofs.Ytlmddkekeoebcaa
open Go.RowKit
set_option linter.unusedVariables false
set_option linter.unusedSimpArgs false
set_option maxRecDepth 100000
set_option maxHeartbeats 4000000


theorem ref_Free (P : Nat) (ps : List Psg) (PA : Option Addr) (pc : Nat) (xs : List Int) (XA : Option Addr) (xc : Nat) (out : Int) (help : Bool) (fr to : Int) (l : List Int) (LA : Option Addr) (lc : Nat) (w : World) (hps : InS w noF 7 PA ps.length (pcell ps)) (hpn : ps.length ≤ 9223372036854775807) (hxs : InS w noF 1 XA xs.length (icl xs)) (hxn : xs.length ≤ 9223372036854775807) (hl : InS w noF 1 LA l.length (icl l)) (hln : l.length ≤ 9223372036854775807) (hl47 : l.length ≤ 17592186044416) (hV : StV P ps xs) :
    Calls Try.prog 26 [.agg [.int .i64 (P : Int), .slice PA ps.length pc, .slice XA xs.length xc].toArray, .int .i64 out, .bool help, .int .i64 fr, .int .i64 to, .slice LA l.length lc].toArray w (Ret (fun u w' => u = .tuple #[.int .i64 (freeV ps out help fr to l).1, .bool (freeV ps out help fr to l).2] ∧ St w noF [] w')) := by
 refine enter Try.func26 rfl Try.ntmps26 rfl (fun a H => ?_)
 have S := St.start w
 refine seq_list fun K1 k1 => ?_
 refine list_box H rfl S rfl rfl ?_;clear H a S;intro b6 _ a hb6 hbw6 S H
 refine ls 2 H <| sr 2 rfl <| sE ?_;clear H a;intro a H
 refine k1 _ _ ?_;clear k1 K1
 refine sS H fun K2 k2=>sr 1 rfl <| sE ?_;clear H a;intro a H
 refine k2 _ ?_;clear k2 K2
 refine wp_seq_k fun K3 k3 => ?_
 refine sS H fun K4 k4=>sr 1 rfl <| sE ?_;clear H a;intro a H
 refine k4 _ ?_;clear k4 K4
 refine wp_block ?_
 refine loop_st (X := Nat × Int × Int) (R0 := _) [1, 2, 4, 5, 6] H rfl (fun ⟨k, a0, t0⟩ => [(3, .int .i64 a0), (14, .int .i64 t0), (15, .int .i64 (k : Int))]) (fun ⟨k, a0, t0⟩ => []) (fun g ⟨k, a0, t0⟩ => k ≤ l.length ∧ g + k = l.length ∧ freeG ps out help l fr k = some (a0, t0) ∧ 0 ≤ t0 ∧ t0 ≤ 20 * (k : Int)) (l.length) (0, fr, 0) ?_ (S.sel [0] rfl rfl) (H.keep [3, 14, 15, 1, 2, 4, 5, 6] rfl) ?_
 · exact ⟨by omega, by omega, rfl, by omega, by omega⟩
 clear H S a
 intro g1 x1 a w1 hp S H K5 k5
 obtain ⟨k, a0, t0⟩ := x1
 dsimp only at hp S H
 obtain ⟨hkl, hgk, hG, ht0, ht1⟩ := hp
 refine wp_seq_k fun K6 k6 => ?_
 refine sS H fun K7 k7=>sr 2 rfl <| sL sl_23 rfl <| sr 1 rfl <| sE ?_;clear H a;intro a H
 refine k7 _ ?_;clear k7 K7
 refine condL H rfl (fun hc1 => ?_) (fun hc1 => ?_)
 ·skip
  refine wp_skip ?_
  refine k6 _ _ ?_
  refine wp_seq_k fun K8 k8 => ?_
  refine wp_block ?_
  refine wp_seq_k fun K9 k9 => ?_
  replace H := H.keep [1, 2, 3, 4, 5, 6, 14, 15] rfl
  replace S := S.drew
  refine sD H fun K10 k10=>sr 2 rfl <| si sl_23 sz_3 rfl rfl (hl.adr (by omega)) (by omega) <| slm one_3 rfl (hl.rd S (by omega) (by omega)) <| sf fo_25_1 rfl <| sl S 0 one_22 rfl rfl rfl <| sL sl_22 rfl <| sd (does_sub rfl rfl (by unfold i64ok; omega)) <| sc rfl Try.func56 rfl rfl (ref_from _ _ _ _) <| sr 1 rfl <| sE ?_;clear H a;intro a H
  refine k10 _ ?_;clear k10 K10
  refine cond_ H rfl (fun hc2 => ?_) (fun hc2 => ?_)
  ·skip
   try simp only [o1,o2,o3,o4,o5,o6,o7,o8,o9,oa] at hc2
   replace H := H.keep [] rfl
   refine sS H fun K11 k11=>sr 2 rfl <| sE ?_;clear H a;intro a H
   refine k11 _ ?_;clear k11 K11
   refine wp_ret ?_
   refine ret2 (fn := Try.f26) rfl H rfl rfl ?_
   rw [free_bad (k := k) (by omega) hG (by omega)]
   exact ⟨rfl, (S.sel [] rfl rfl)⟩
  try simp only [o1,o2,o3,o4,o5,o6,o7,o8,o9,oa] at hc2
  have hvb := hV.psv (l.getD k 0).toNat (by omega)
  refine wp_skip ?_
  refine k9 _ _ ?_
  replace H := H.keep [1, 2, 3, 4, 5, 6, 14, 15] rfl
  replace S := S.drew
  refine seq_wq [(0, true), (1, true), (2, true), (3, true), (4, true), (5, true), (6, true), (7, true), (8, false), (9, false)] (by kernel_rfl) (by kernel_rfl) (S.sel [0] rfl rfl) fun K12 k12 => ?_
  refine qF H <| qd rfl (fun _ S => (does_field fo_25_1 rfl)) <| qd rfl (fun _ S => does_load one_22 rfl (boxM.rd S (i := 0) rfl rfl)) <| qr 2 rfl <| qd rfl (fun _ S => does_indexN sl_23 sz_3 rfl rfl (hl.adr (by omega)) (by omega)) <| qd rfl (fun _ S => does_load one_3 rfl (hl.rd S (by omega) (by omega))) <| qd rfl (fun _ S => does_index sl_22 sz_45 rfl rfl (hps.adr (by omega)) (by omega) (by omega)) <| qd rfl (fun _ S => (does_loadIn agg_45 sz_45 rfl S hps (by omega) (by omega))) <| qK ?_;clear H a;intro a H
  refine wq_eff rfl ?_
  refine list_alloc H rfl S ze_45 ?_;clear H a S;intro b16 _ a hb16 hbw16 S H
  refine wpList_nil (And.intro (S.sel [1] rfl rfl) ?_)
  refine wq_eff rfl ?_
  refine list_store H S (i := 0) rfl rfl rfl rfl sz_45 rfl rfl ?_
  clear H a S;intro _ a S H
  refine wpList_nil (And.intro (S.sel [1] rfl rfl) ?_)
  refine wq_nil ?_
  refine k12 _ _ ?_
  clear k12 K12
  replace H := H.keep [1, 2, 3, 4, 5, 6, 14, 15, 16] rfl
  refine seq_list fun K13 k13 => ?_
  refine ls 2 H <| sd ((does_loadBox agg_45 sz_45 rfl S (i := 0) rfl rfl)) <| sr 1 rfl <| sE ?_;clear H a;intro a H
  refine list_call H rfl rfl Try.func60 rfl rfl (ref_Other (ps.getD (l.getD k 0).toNat Psg.zero) a0 _) ?_;clear H a
  rintro _ _ a ⟨rfl, S2⟩ H
  replace S := S.call S2;clear S2
  refine ls 1 H <| sr 1 rfl <| sE ?_;clear H a;intro a H
  refine k13 _ _ ?_;clear k13 K13
  refine wp_seq_k fun K14 k14 => ?_
  replace H := H.keep [1, 2, 3, 4, 5, 6, 14, 15, 16] rfl
  refine seq_list fun K15 k15 => ?_
  refine ls 3 H <| sr 3 rfl <| sE ?_;clear H a;intro a H
  apply list_guard (i := 2) (g := 46) (t := 51) (b := false) 5 H S rfl rfl (by kernel_rfl) (by kernel_rfl) rfl rfl
  case h1 =>
   intro hg3
   have hq3 := hg3; try simp only [o1,o2,o3,o4,o5,o6,o7,o8,o9,oa] at hq3
   refine ls 3 H <| sy hg3 <| sd ((does_loadBox agg_45 sz_45 rfl S (i := 0) rfl rfl)) <| sy hg3 <| sr 1 rfl <| sy hg3 <| sr 1 rfl <| sE ?_;intro a H
   refine list_yes' H rfl rfl (by assumption) ?_
   refine list_call H rfl rfl Try.func61 rfl rfl (ref_free (ps.getD (l.getD k 0).toNat Psg.zero) out help _ (hV.mch (l.getD k 0).toNat (by omega))) ?_
   rintro _ _ a ⟨rfl, S2⟩ H
   replace S := S.call S2;clear S2
   refine ls 1 H <| sy hg3 <| sr 1 rfl <| sE ?_;intro a H
   exact wpList_nil ⟨H.strip 5 rfl rfl, (S.sel [0, 1] rfl rfl)⟩
  clear H a S;intro a _ H S
  refine ls 1 H <| so rfl rfl rfl <| sE ?_;clear H a;intro a H
  refine k15 _ _ ?_;clear k15 K15
  refine cond_ H rfl (fun hc3 => ?_) (fun hc3 => ?_)
  ·skip
   try simp only [o1,o2,o3,o4,o5,o6,o7,o8,o9,oa] at hc3
   replace H := H.keep [] rfl
   refine sS H fun K16 k16=>sr 2 rfl <| sE ?_;clear H a;intro a H
   refine k16 _ ?_;clear k16 K16
   refine wp_ret ?_
   refine ret2 (fn := Try.f26) rfl H rfl rfl ?_
   rw [free_bad (k := k) (by omega) hG (fun h9 => by rcases hc3 with h8 | h8; omega; (rw [h8] at h9; cases h9.2))]
   exact ⟨rfl, (S.sel [] rfl rfl)⟩
  try simp only [o1,o2,o3,o4,o5,o6,o7,o8,o9,oa] at hc3
  refine wp_skip ?_
  refine k14 _ _ ?_
  refine sO H <| sr 1 rfl <| sf fo_45_3 rfl <| sl S 0 one_3 rfl rfl rfl <| sd (does_add rfl rfl (by unfold i64ok; omega)) <| sr 1 rfl <| sE ?_;clear H a;intro a H
  refine k8 _ _ ?_
  replace H := H.keep [1, 2, 3, 4, 5, 6, 14, 15] rfl
  refine sO H <| sr 1 rfl <| sd (does_add rfl rfl (by unfold i64ok; omega)) <| sr 1 rfl <| sE ?_;clear H a;intro a H
  exact k5 (g1 - 1) (k + 1, _, _) a _ (by omega) (⟨by omega, by omega, free_next hG ⟨⟨by omega, by omega⟩, hc3.2⟩, by omega, by omega⟩) (S.sel [1] rfl rfl) (H.keep [3, 14, 15, 1, 2, 4, 5, 6] rfl)
 refine wp_exit ?_
 refine k3 _ _ ?_
 refine sS H fun K19 k19=>sr 6 rfl <| sE ?_;clear H a;intro a H
 refine k19 _ ?_;clear k19 K19
 refine wp_ret ?_
 refine ret2 (fn := Try.f26) rfl H rfl rfl ?_
 obtain rfl : k = l.length := by omega
 rw [free_end hG]
 exact ⟨rfl, (S.sel [] rfl rfl)⟩

theorem law_before (x y : List Int) (AA BA : Option Addr) (ac bc : Nat) (w : World) (ha : InS w noF 1 AA x.length (icl x)) (hb : InS w noF 1 BA y.length (icl y)) (han : x.length ≤ 9223372036854775807) (hbn : y.length ≤ 9223372036854775807) :
    Calls Try.prog 27 [.slice AA x.length ac, .slice BA y.length bc].toArray w (Ret (fun u w' => u = .bool (befL x y) ∧ St w noF [] w')) := by
 refine enter Try.func27 rfl Try.ntmps27 rfl (fun a H => ?_)
 have S := St.start w
 refine sS H fun K1 k1=>sr 1 rfl <| sE ?_;clear H a;intro a H
 refine k1 _ ?_;clear k1 K1
 refine wp_seq_k fun K2 k2 => ?_
 refine sS H fun K3 k3=>sr 1 rfl <| sE ?_;clear H a;intro a H
 refine k3 _ ?_;clear k3 K3
 refine wp_block ?_
 refine loop_st (X := Nat) (R0 := _) [0, 1] H rfl (fun k => [(5, .int .i64 (k : Int))]) (fun k => []) (fun g k => k ≤ x.length ∧ k ≤ y.length ∧ g + k = x.length ∧ ∀ q, q < k → x.getD q 0 = y.getD q 0) (x.length) 0 ?_ (S.sel [] rfl rfl) (H.keep [5, 0, 1] rfl) ?_
 · exact ⟨by omega, by omega, by omega, fun q hq => absurd hq (Nat.not_lt_zero q)⟩
 clear H S a
 intro g1 x1 a w1 hp S H K4 k4
 obtain ⟨k, rfl⟩ : ∃ y, y = x1 := ⟨_, rfl⟩
 refine wp_seq_k fun K5 k5 => ?_
 replace H := H.keep [0, 1, 5] rfl
 refine sS H fun K6 k6=>sr 2 rfl <| sL sl_23 rfl <| sr 2 rfl <| sg 4 4 10 14 true rfl rfl (fun hg5 => sy hg5 <| sr 1 rfl <| sy hg5 <| sr 1 rfl <| sy hg5 <| sL sl_23 rfl <| sy hg5 <| sr 1 rfl <| sz 4 rfl rfl rfl) <| sa rfl rfl rfl <| sE ?_;clear H a;intro a H
 refine k6 _ ?_;clear k6 K6
 refine cond_ H rfl (fun hc1 => ?_) (fun hc1 => ?_)
 ·skip
  try simp only [o1,o2,o3,o4,o5,o6,o7,o8,o9,oa] at hc1
  refine wp_skip ?_
  refine k5 _ _ ?_
  refine wp_seq_k fun K7 k7 => ?_
  refine wp_block ?_
  replace H := H.keep [0, 1, 5] rfl
  replace S := S.drew
  refine sD H fun K8 k8=>sr 2 rfl <| si sl_23 sz_3 rfl rfl (ha.adr (by omega)) (by omega) <| slm one_3 rfl (ha.rd S (by omega) (by omega)) <| sr 2 rfl <| si sl_23 sz_3 rfl rfl (hb.adr (by omega)) (by omega) <| slm one_3 rfl (hb.rd S (by omega) (by omega)) <| sr 1 rfl <| sE ?_;clear H a;intro a H
  refine k8 _ ?_;clear k8 K8
  refine condN H rfl (fun hc2 => ?_) (fun hc2 => ?_)
  ·skip
   replace H := H.keep [0, 1, 5] rfl
   replace S := S.drew
   refine sD H fun K9 k9=>sr 2 rfl <| si sl_23 sz_3 rfl rfl (ha.adr (by omega)) (by omega) <| slm one_3 rfl (ha.rd S (by omega) (by omega)) <| sr 2 rfl <| si sl_23 sz_3 rfl rfl (hb.adr (by omega)) (by omega) <| slm one_3 rfl (hb.rd S (by omega) (by omega)) <| sr 2 rfl <| sE ?_;clear H a;intro a H
   refine k9 _ ?_;clear k9 K9
   refine wp_ret ?_
   refine ret1 (fn := Try.f27) rfl H rfl ?_
   rw [bef_at (k := k) hp.2.2.2 (by omega) (by omega) (by omega)]
   exact ⟨rfl, (S.sel [] rfl rfl)⟩
  refine wp_skip ?_
  refine k7 _ _ ?_
  replace H := H.keep [0, 1, 5] rfl
  refine sO H <| sr 1 rfl <| sd (does_add rfl rfl (by unfold i64ok; omega)) <| sr 1 rfl <| sE ?_;clear H a;intro a H
  exact k4 (g1 - 1) (k + 1) a _ (by omega) (⟨by omega, by omega, by omega, eq_next hp.2.2.2 (by omega)⟩) (S.sel [] rfl rfl) (H.keep [5, 0, 1] rfl)
 try simp only [o1,o2,o3,o4,o5,o6,o7,o8,o9,oa] at hc1
 refine wp_exit ?_
 refine k2 _ _ ?_
 refine sS H fun K11 k11=>sr 1 rfl <| sE ?_;clear H a;intro a H
 refine k11 _ ?_;clear k11 K11
 refine wp_ret ?_
 refine ret1 (fn := Try.f27) rfl H rfl ?_
 rw [bef_end (k := k) hp.2.2.2 (by omega) (by omega) (by omega)]
 exact ⟨rfl, (S.sel [] rfl rfl)⟩

end Go.Proofs.Ytlmddkekeoebcaa
