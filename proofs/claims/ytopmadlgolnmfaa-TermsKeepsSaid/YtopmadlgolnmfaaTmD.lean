/- TmD. Printed by gen.py. -/
import Derived.Test.YtopmadlgolnmfaaTmC
import Derived.Test.YtopmadlgolnmfaaH2
namespace Go.Proofs.Ytopmadlgolnmfaa
open Go.RowKit
set_option linter.unusedVariables false
set_option linter.unusedSimpArgs false
set_option maxRecDepth 100000
set_option maxHeartbeats 4000000


theorem keyOK : KeyOk Try.prog 152 (encN (n := 21)) :=
  keyOk_N (ints_str Try.underlying152 sz_152 (.cons (by decide) rfl (PartK.int2 Try.underlying3 one_3) (.cons (by decide) rfl (PartK.of (ints_arr Try.underlying150 sz_150 (PartK.int Try.underlying3 one_3) sz_3)) (.nil 21))) (by kernel_rfl)) (by omega) (by rw [Try.underlying152])
theorem YIn.nowR {w w0 : World} {F0 : Nat → Prop} {R : List Mem} {y : Yr} (h : YIn w0 F0 y) (S : St w0 F0 R w) : YIn w (fps R) y :=
  ⟨h.ps.nowR S, h.xs.nowR S, h.pe.nowR S, h.prs.nowR S, h.us.nowR S, h.sps.nowR S, fun k hk => (h.rt k hk).nowR S, fun k hk => (h.ul k hk).nowR S⟩
theorem YOk.days {y : Yr} (h : YOk y) : 1 ≤ y.days ∧ y.days ≤ 20 := h.yr.1
theorem YOk.unit {y : Yr} (h : YOk y) {i : Nat} (hi : i < y.us.length) : UntOk y.ps y.us (y.us.getD i Unt.zero) i := untB_iff.1 (h.un i hi)
theorem YOk.old {y : Yr} (h : YOk y) {i : Nat} (hi : i < y.us.length) : 0 ≤ (y.us.getD i Unt.zero).old := by
  have h1 := h.unit hi
  have h2 := wearE_pv h1.wear
  have h3 := h1.i
  unfold untI at h3
  omega


theorem tm_open (y : Yr) (w : World) :
    Calls Try.prog 37 [.agg [.int .i64 y.days, .int .i64 y.pl, .slice y.PA y.ps.length y.pc, .slice y.XA y.xs.length y.xc, .slice y.BA y.pe.length y.bc, .int .i64 y.limit, .bool y.help, .slice y.QA y.prs.length y.qc, .slice y.VA y.us.length y.vc, .int .i64 y.crew, .slice y.SA y.sps.length y.sc].toArray].toArray w (Ret (fun v w' => ∃ cb bl bs bk, v = .pointer (some ⟨cb, 0, none⟩) ∧ St w noF [boxM cb 120 [.int .i64 y.days, .int .i64 y.pl, .slice y.PA y.ps.length y.pc, .slice y.XA y.xs.length y.xc, .slice y.BA y.pe.length y.bc, .int .i64 y.limit, .bool y.help, .slice y.QA y.prs.length y.qc, .slice y.VA y.us.length y.vc, .int .i64 y.crew, .slice y.SA y.sps.length y.sc, .map (some bl), .map (some bs), .map (some bk)], mapK (encN (n := 21)) bl (livP y), mapK (fun n : Int => Value.int .i64 n) bs (safP y), mapK enc2 bk (kepP y)] w')) := by
 refine enter Try.func37 rfl Try.ntmps37 rfl (fun a H => ?_)
 have S := St.start w
 refine seq_list fun K1 k1 => ?_
 refine list_box H rfl S rfl rfl ?_;clear H a S;intro b1 _ a hb1 hbw1 S H
 refine ls 1 H <| sr 1 rfl <| sE ?_;clear H a;intro a H
 refine k1 _ _ ?_;clear k1 K1
 refine seq_list fun K2 k2 => ?_
 refine ls 1 H <| sd ((does_loadBox agg_30 sz_30 rfl S (i := 0) rfl rfl)) <| sE ?_;clear H a;intro a H
 refine list_makeMapK (encN (n := 21)) (livP y) livP_none H rfl S ?_;clear H a S;intro bl _ a hbl S H
 refine list_makeMapK (fun n : Int => Value.int .i64 n) (safP y) safP_none H rfl S ?_;clear H a S;intro bs _ a hbs S H
 refine list_makeMapK enc2 (kepP y) kepP_none H rfl S ?_;clear H a S;intro bk _ a hbk S H
 refine ls 1 H <| sd (does_build bt_120 rfl rfl) <| sE ?_;clear H a;intro a H
 refine list_box H rfl S rfl rfl ?_;clear H a S;intro b8 _ a hb8 hbw8 S H
 refine ls 1 H <| sr 1 rfl <| sE ?_;clear H a;intro a H
 refine k2 _ _ ?_;clear k2 K2
 refine wp_ret ?_
 refine ret1 (fn := Try.f37) rfl H rfl ?_
 exact ⟨b8, bl, bs, bk, rfl, (S.sel [0, 3, 2, 1] rfl rfl)⟩

theorem cal_life (y : Yr) (cb bl bs bk : Nat) (i : Nat) (l : List Tsk) (LA : Option Addr) (lc : Nat) (w : World) (F : Nat → Prop) (S : St w F [boxM cb 120 [.int .i64 y.days, .int .i64 y.pl, .slice y.PA y.ps.length y.pc, .slice y.XA y.xs.length y.xc, .slice y.BA y.pe.length y.bc, .int .i64 y.limit, .bool y.help, .slice y.QA y.prs.length y.qc, .slice y.VA y.us.length y.vc, .int .i64 y.crew, .slice y.SA y.sps.length y.sc, .map (some bl), .map (some bs), .map (some bk)], mapK (encN (n := 21)) bl (livP y), mapK (fun n : Int => Value.int .i64 n) bs (safP y), mapK enc2 bk (kepP y)] w) (hy : YIn w F y) (hyb : YBd y) (hok : YOk y) (hi : i < y.us.length) (hl : InS w F 3 LA l.length (tkcell l)) (hln : l.length ≤ 9223372036854775807) (htk : ∀ k, k < l.length → tskI y (l.getD k Tsk.zero)) :
    Calls Try.prog 64 [.pointer (some ⟨cb, 0, none⟩), .int .i64 (i : Int), .slice LA l.length lc].toArray w (Ret (fun v w' => v = lifeV (y.us.getD i Unt.zero) (jobF l i) y.days.toNat ∧ St w F [boxM cb 120 [.int .i64 y.days, .int .i64 y.pl, .slice y.PA y.ps.length y.pc, .slice y.XA y.xs.length y.xc, .slice y.BA y.pe.length y.bc, .int .i64 y.limit, .bool y.help, .slice y.QA y.prs.length y.qc, .slice y.VA y.us.length y.vc, .int .i64 y.crew, .slice y.SA y.sps.length y.sc, .map (some bl), .map (some bs), .map (some bk)], mapK (encN (n := 21)) bl (livP y), mapK (fun n : Int => Value.int .i64 n) bs (safP y), mapK enc2 bk (kepP y)] w')) := by
 have hmx : maxLen = 9223372036854775807 := rfl
 have hdy := hok.days; have husn := hyb.usn
 have hD : ((y.days.toNat : Nat) : Int) = y.days := by omega
 refine enter Try.func64 rfl Try.ntmps64 rfl (fun a H => ?_)
 skip
 refine seq_list fun K1 k1 => ?_
 refine list_alloc H rfl S ze_101 ?_;clear H a S;intro b6 _ a hb6 hbw6 S H
 refine k1 _ _ ?_;clear k1 K1
 refine seq_list fun K2 k2 => ?_
 refine ls 2 H <| sr 1 rfl <| sd (does_build bt_152 rfl rfl) <| sE ?_;clear H a;intro a H
 refine list_alloc H rfl S ze_152 ?_;clear H a S;intro b7 _ a hb7 hbw7 S H
 refine list_store H S (i := 0) rfl rfl rfl rfl sz_152 rfl rfl ?_
 clear H a S;intro _ a S H
 refine k2 _ _ ?_;clear k2 K2
 refine wp_seq_k fun K3 k3 => ?_
 replace S := boxM.same S (i := 0) rfl (cs' := [.int .i64 (i : Int), .int .i64 0, .int .i64 0, .int .i64 0, .int .i64 0, .int .i64 0, .int .i64 0, .int .i64 0, .int .i64 0, .int .i64 0, .int .i64 0, .int .i64 0, .int .i64 0, .int .i64 0, .int .i64 0, .int .i64 0, .int .i64 0, .int .i64 0, .int .i64 0, .int .i64 0, .int .i64 0]) rfl
 replace S := box_ownL S (i := 0) rfl (by show 21 ≤ maxLen; decide)
 replace S := S.recell (i := 0) rfl (cell' := kcl i (jobP l 0 i)) (fun k j hk hj => kcl_zero hk hj)
 refine sS H fun K4 k4=>sr 1 rfl <| sL sl_31 rfl <| sr 1 rfl <| sE ?_;clear H a;intro a H
 refine k4 _ ?_;clear k4 K4
 refine wp_block ?_
 refine loop_st (X := Nat) (R0 := _) [0, 1, 6, 7, 14, 15] H rfl (fun k => [(16, .int .i64 (k : Int))]) (fun k => [ownM 152 1 (some ⟨b7, 0, none⟩) 21 21 (kcl i (jobP l k i))]) (fun g k => k ≤ l.length ∧ g + k = l.length) (l.length) 0 ?_ (S.sel [0, 1, 2, 3, 4, 5] rfl rfl) (H.keep [16, 0, 1, 6, 7, 14, 15] rfl) ?_
 · exact ⟨by omega, by omega⟩
 clear H S a
 intro g1 x1 a w1 hp S H K5 k5
 obtain ⟨k, rfl⟩ : ∃ y, y = x1 := ⟨_, rfl⟩
 refine sS H fun K6 k6=>sr 1 rfl <| sE ?_;clear H a;intro a H
 refine k6 _ ?_;clear k6 K6
 refine wp_seq_k fun K7 k7 => ?_
 refine condL H rfl (fun hc1 => ?_) (fun hc1 => ?_)
 ·skip
  refine wp_skip ?_
  refine k7 _ _ ?_
  refine wp_seq_k fun K8 k8 => ?_
  refine wp_block ?_
  refine seq_list fun K9 k9 => ?_
  refine ls 2 H <| si sl_31 sz_48 rfl rfl (hl.adr (by omega)) (by omega) <| sd ((does_loadIn agg_48 sz_48 rfl S hl (by omega) (by omega))) <| sE ?_;clear H a;intro a H
  refine list_alloc H rfl S ze_48 ?_;clear H a S;intro b9 _ a hb9 hbw9 S H
  refine list_store H S (i := 0) rfl rfl rfl rfl sz_48 rfl rfl ?_
  clear H a S;intro _ a S H
  refine k9 _ _ ?_;clear k9 K9
  have htt := htk k (by omega); unfold tskI at htt
  refine sS H fun K10 k10=>sf fo_48_1 rfl <| sl S 0 one_3 rfl rfl rfl <| sr 2 rfl <| sE ?_;clear H a;intro a H
  refine k10 _ ?_;clear k10 K10
  refine condE H rfl (fun hc2 => ?_) (fun hc2 => ?_)
  ·skip
   replace H := H.keep [0, 1, 6, 7, 9, 14, 15, 16] rfl
   refine one_tail 11 (by kernel_rfl) (by kernel_rfl) ?_
   replace S := S.drew
   refine sF H <| sf fo_48_0 rfl <| sl S 0 one_3 rfl rfl rfl <| sf fo_152_1 rfl <| sd ((does_indexArr Try.underlying150 sz_3 rfl rfl (by omega) (by omega)).to (v' := .pointer (some (pt (some ⟨b7, 0, none⟩) 1 ((l.getD k Tsk.zero).day.toNat + 1) 0))) (congrArg (fun o => Value.pointer (some ⟨b7, o, none⟩)) (show 0 + 1 + (l.getD k Tsk.zero).day.toNat * 1 = 0 + ((l.getD k Tsk.zero).day.toNat + 1) * 1 + 0 by omega))) <| slm one_3 rfl (ownM.rd S (i := 1) (k := (l.getD k Tsk.zero).day.toNat + 1) (j := 0) rfl (by omega) (by omega)) <| sf fo_48_2 rfl <| sl S 0 one_3 rfl rfl rfl <| sd (does_shl rfl rfl (by omega) (by omega) (shl_ok1 htt.2.2)) <| sd (does_orJ rfl rfl (jobV_four _ _ _) (by omega)) <| sf fo_152_1 rfl <| sd ((does_indexArr Try.underlying150 sz_3 rfl rfl (by omega) (by omega)).to (v' := .pointer (some (pt (some ⟨b7, 0, none⟩) 1 ((l.getD k Tsk.zero).day.toNat + 1) 0))) (congrArg (fun o => Value.pointer (some ⟨b7, o, none⟩)) (show 0 + 1 + (l.getD k Tsk.zero).day.toNat * 1 = 0 + ((l.getD k Tsk.zero).day.toNat + 1) * 1 + 0 by omega))) <| sE ?_;clear H a;intro a H
   refine list_store_own H S (i := 1) rfl rfl rfl (by omega) (by omega) sz_3 rfl ?_
   clear H a S;intro _ a S H
   refine k8 _ _ ?_
   replace H := H.keep [0, 1, 6, 7, 14, 15, 16] rfl
   refine sO H <| sd (does_add rfl rfl (by unfold i64ok; omega)) <| sr 1 rfl <| sE ?_;clear H a;intro a H
   replace S := S.recell (i := 1) rfl (cell' := kcl i (jobP l (k + 1) i)) (fun k9 j9 hk9 hj9 => kcl_put (d := (l.getD k Tsk.zero).day.toNat) (by omega) htt.2.2 (by omega) (by omega) k9 j9 hj9)
   exact k5 (g1 - 1) (k + 1) a _ (by omega) (⟨by omega, by omega⟩) (S.sel [1, 2, 3, 4, 5, 6] rfl rfl) (H.keep [16, 0, 1, 6, 7, 14, 15] rfl)
  refine wp_skip ?_
  refine k8 _ _ ?_
  refine sO H <| sd (does_add rfl rfl (by unfold i64ok; omega)) <| sr 1 rfl <| sE ?_;clear H a;intro a H
  rw [← jobP_no (l := l) (n := k) (i := i) (by omega) htt.2.2 (by omega)] at S
  exact k5 (g1 - 1) (k + 1) a _ (by omega) (⟨by omega, by omega⟩) (S.sel [1, 2, 3, 4, 5, 6] rfl rfl) (H.keep [16, 0, 1, 6, 7, 14, 15] rfl)
 refine wp_exit ?_
 refine k3 _ _ ?_
 obtain rfl : k = l.length := by omega
 rw [jobP_all] at S
 replace S := own_box S (i := 0) rfl
 obtain ⟨h0, hh0, S⟩ := mapK.fix S (i := 3) rfl
 rcases hk0 : h0 (keyOf i (jobF l i)) with _ | v0
 ·skip
  skip
  replace H := H.keep [0, 1, 6, 7] rfl
  replace S := S.drew
  refine seq_wq [(0, true), (1, true), (2, true), (3, true), (4, true), (5, true), (6, true), (7, true), (8, true), (9, false), (10, false), (11, true)] (by kernel_rfl) (by kernel_rfl) (S.sel [0, 1, 2, 3, 4, 5] rfl rfl) fun K14 k14 => ?_
  refine qF H <| qr 2 rfl <| qd rfl (fun _ S => (does_field fo_120_1 rfl)) <| qd rfl (fun _ S => does_load one_116 rfl (boxM.rd S (i := 2) rfl rfl)) <| qd rfl (fun _ S => (does_loadBox agg_152 sz_152 rfl S (i := 0) rfl rfl)) <| qd rfl (fun _ S => does_lookupOkK S (i := 3) rfl mt_116 keyOK zv_101 rfl (k := keyOf i (jobF l i)) rfl (fun h e => by subst e; rw [hk0]; exact ⟨rfl, rfl⟩)) <| qr 3 rfl <| qK ?_;clear H a;intro a H
  refine wq_eff rfl ?_
  refine list_alloc H rfl S ze_101 ?_;clear H a S;intro b10 _ a hb10 hbw10 S H
  refine wpList_nil (And.intro (S.sel [1, 2, 3, 4, 5, 6] rfl rfl) ?_)
  refine wq_eff rfl ?_
  refine list_store H S (i := 0) rfl rfl rfl rfl sz_101 rfl rfl ?_
  clear H a S;intro _ a S H
  refine wpList_nil (And.intro (S.sel [1, 2, 3, 4, 5, 6] rfl rfl) ?_)
  refine qF H <| qr 1 rfl <| qK ?_;clear H a;intro a H
  refine wq_nil ?_
  refine k14 _ _ ?_
  clear k14 K14
  refine wp_seq_k fun K15 k15 => ?_
  replace H := H.keep [0, 1, 6, 7, 10, 11] rfl
  refine sS H fun K16 k16=>sr 2 rfl <| sE ?_;clear H a;intro a H
  refine k16 _ ?_;clear k16 K16
  refine cond_ H rfl (fun hc3 => ?_) (fun hc3 => ?_)
  ·skip
   skip
   replace H := H.keep [0, 1, 6, 7, 10] rfl
   replace S := S.drew
   refine seq_wq [(0, true), (1, true), (2, true), (3, true), (4, true), (5, true), (6, true), (7, true), (8, true), (9, true), (10, true), (11, true), (12, true), (13, true), (14, true), (15, false), (16, false)] (by kernel_rfl) (by kernel_rfl) (S.sel [1, 2, 3, 4, 5, 6] rfl rfl) fun K17 k17 => ?_
   refine qF H <| qr 2 rfl <| qd rfl (fun _ S => (does_field fo_120_0 rfl)) <| qd rfl (fun _ S => (does_field fo_30_6 rfl)) <| qd rfl (fun _ S => does_load one_27 rfl (boxM.rd S (i := 2) rfl rfl)) <| qr 1 rfl <| qd rfl (fun _ S => does_indexN sl_27 sz_65 rfl rfl (hy.us.adr (by omega)) (by omega)) <| qd rfl (fun _ S => (does_loadIn agg_65 sz_65 rfl S hy.us (by omega) (by omega))) <| qd rfl (fun _ S => (does_field fo_152_1 rfl)) <| qd rfl (fun _ S => (does_loadBox agg_150 sz_150 rfl S (i := 0) rfl rfl)) <| qr 2 rfl <| qd rfl (fun _ S => (does_field fo_120_0 rfl)) <| qd rfl (fun _ S => (does_field fo_30_0 rfl)) <| qd rfl (fun _ S => does_load one_3 rfl (boxM.rd S (i := 2) rfl rfl)) <| qK ?_;clear H a;intro a H
   refine wq_eff rfl ?_
   rw [← hD] at H
   refine list_call H rfl rfl Try.func87 rfl rfl (tm_live (y.us.getD i Unt.zero) (jobF l i) y.days.toNat _ ((hy.rt i hi).now S) (hyb.rtn hi) ((hy.ul i hi).now S) (hyb.uln hi) (hyb.cap i hi) (hok.unit hi).i (hok.old hi) (fun d => jobV_bd _ _ _) (by omega)) ?_;clear H a
   rintro _ _ a ⟨rfl, S2⟩ H
   replace S := S.call S2;clear S2
   refine wpList_nil (And.intro (S.sel [1, 2, 3, 4, 5, 6] rfl rfl) ?_)
   refine wq_eff rfl ?_
   refine list_store H S (i := 0) rfl rfl rfl rfl sz_101 rfl rfl ?_
   clear H a S;intro _ a S H
   refine wpList_nil (And.intro (S.sel [1, 2, 3, 4, 5, 6] rfl rfl) ?_)
   refine wq_nil ?_
   refine k17 _ _ ?_
   clear k17 K17
   replace H := H.keep [0, 6, 7, 10] rfl
   refine one_tail 6 (by kernel_rfl) (by kernel_rfl) ?_
   replace S := S.drew
   refine sF H <| sr 2 rfl <| sf fo_120_1 rfl <| sl S 3 one_116 rfl rfl rfl <| sd ((does_loadBox agg_152 sz_152 rfl S (i := 1) rfl rfl)) <| sd ((does_loadBox agg_101 sz_101 rfl S (i := 0) rfl rfl)) <| sE ?_;clear H a;intro a H
   refine list_mapUpdateK (k := keyOf i (jobF l i)) (livP y) H S (i := 4) rfl mt_116 keyOK rfl rfl rfl (fun h e => by subst e; exact livP_put (by omega) rfl h hh0) ?_;clear H a S;intro _ a S H
   refine k15 _ _ ?_
   refine seq_list fun K19 k19 => ?_
   refine ls 1 H <| sd ((does_loadBox agg_101 sz_101 rfl S (i := 0) rfl rfl)) <| sE ?_;clear H a;intro a H
   refine list_store H S (i := 2) rfl rfl rfl rfl sz_101 rfl rfl ?_
   clear H a S;intro _ a S H
   refine k19 _ _ ?_;clear k19 K19
   refine wp_ret ?_
   refine retA (fn := Try.f64) rfl H rfl agg_101 (by exact sz_101) (boxAgg S (i := 2) rfl) ?_
   exact ⟨rfl, (S.sel [3, 4, 5, 6] rfl rfl)⟩
  skip
  cases hc3
 obtain rfl := hh0 _ _ _ hi hk0
 replace H := H.keep [0, 1, 6, 7] rfl
 replace S := S.drew
 refine seq_wq [(0, true), (1, true), (2, true), (3, true), (4, true), (5, true), (6, true), (7, true), (8, true), (9, false), (10, false), (11, true)] (by kernel_rfl) (by kernel_rfl) (S.sel [0, 1, 2, 3, 4, 5] rfl rfl) fun K20 k20 => ?_
 refine qF H <| qr 2 rfl <| qd rfl (fun _ S => (does_field fo_120_1 rfl)) <| qd rfl (fun _ S => does_load one_116 rfl (boxM.rd S (i := 2) rfl rfl)) <| qd rfl (fun _ S => (does_loadBox agg_152 sz_152 rfl S (i := 0) rfl rfl)) <| qd rfl (fun _ S => does_lookupOkK S (i := 3) rfl mt_116 keyOK zv_101 rfl (k := keyOf i (jobF l i)) rfl (fun h e => by subst e; rw [hk0]; exact ⟨rfl, rfl⟩)) <| qr 3 rfl <| qK ?_;clear H a;intro a H
 refine wq_eff rfl ?_
 refine list_alloc H rfl S ze_101 ?_;clear H a S;intro b10 _ a hb10 hbw10 S H
 refine wpList_nil (And.intro (S.sel [1, 2, 3, 4, 5, 6] rfl rfl) ?_)
 refine wq_eff rfl ?_
 refine list_store H S (i := 0) rfl rfl rfl rfl sz_101 rfl rfl ?_
 clear H a S;intro _ a S H
 refine wpList_nil (And.intro (S.sel [1, 2, 3, 4, 5, 6] rfl rfl) ?_)
 refine qF H <| qr 1 rfl <| qK ?_;clear H a;intro a H
 refine wq_nil ?_
 refine k20 _ _ ?_
 clear k20 K20
 refine wp_seq_k fun K21 k21 => ?_
 replace H := H.keep [0, 1, 6, 7, 10, 11] rfl
 refine sS H fun K22 k22=>sr 2 rfl <| sE ?_;clear H a;intro a H
 refine k22 _ ?_;clear k22 K22
 refine cond_ H rfl (fun hc4 => ?_) (fun hc4 => ?_)
 ·skip
  skip
  cases hc4
 skip
 refine wp_skip ?_
 refine k21 _ _ ?_
 refine seq_list fun K23 k23 => ?_
 refine ls 1 H <| sd ((does_loadBox agg_101 sz_101 rfl S (i := 0) rfl rfl)) <| sE ?_;clear H a;intro a H
 refine list_store H S (i := 2) rfl rfl rfl rfl sz_101 rfl rfl ?_
 clear H a S;intro _ a S H
 refine k23 _ _ ?_;clear k23 K23
 refine wp_ret ?_
 refine retA (fn := Try.f64) rfl H rfl agg_101 (by exact sz_101) (boxAgg S (i := 2) rfl) ?_
 replace S := mapK.weak S (i := 4) rfl (Φ' := livP y) (fun g e => by subst e; exact hh0)
 exact ⟨rfl, (S.sel [3, 4, 5, 6] rfl rfl)⟩

end Go.Proofs.Ytopmadlgolnmfaa
