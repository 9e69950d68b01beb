/- WyL. Printed by gen.py. -/
import Derived.Test.YtlmddkekeoebcaaWyI
import Derived.Test.YtlmddkekeoebcaaBar
namespace Go.Proofs.Ytlmddkekeoebcaa
open Go.RowKit
set_option linter.unusedVariables false
set_option linter.unusedSimpArgs false
set_option maxRecDepth 100000
set_option maxHeartbeats 4000000


theorem ways_Bound (pl : Int) (ps : List Psg) (PA : Option Addr) (pc : Nat) (xs : List Int) (XA : Option Addr) (xc : Nat) (out : Int) (pe : List Int) (BA : Option Addr) (bc : Nat) (T0 : Int) (bl : List Int) (DA : Option Addr) (dc : Nat) (w : World) (hps : InS w noF 7 PA ps.length (pcell ps)) (hpn : ps.length ≤ 9223372036854775807) (hxs : InS w noF 1 XA xs.length (icl xs)) (hxn : xs.length ≤ 9223372036854775807) (hpe : InS w noF 1 BA pe.length (icl pe)) (hpen : pe.length ≤ 9223372036854775807) (hbar : InS w noF 1 DA bl.length (icl bl)) (hbn : bl.length ≤ 9223372036854775807) :
    Calls Try.prog 36 [.agg [.int .i64 pl, .slice PA ps.length pc, .slice XA xs.length xc].toArray, .int .i64 out, .slice BA pe.length bc, .int .i64 T0, .slice DA bl.length dc].toArray w (Ret (fun u w' => u = .tuple #[.int .i64 (boundV pl ps xs out pe T0 bl).1, .int .i64 (boundV pl ps xs out pe T0 bl).2] ∧ St w noF [] w')) := by
 refine enterM Try.func36 rfl Try.ntmps36 rfl (fun a H => ?_)
 have S := St.start w
 refine seq_list fun K1 k1 => ?_
 refine list_box H rfl S rfl rfl ?_;clear H a S;intro b5 _ a hb5 hbw5 S H
 refine list_box H rfl S rfl rfl ?_;clear H a S;intro b8 _ a hb8 hbw8 S H
 refine list_box H rfl S rfl rfl ?_;clear H a S;intro b9 _ a hb9 hbw9 S H
 refine ls 2 H <| sr 2 rfl <| sE ?_;clear H a;intro a H
 refine k1 _ _ ?_;clear k1 K1
 refine wp_seq_k fun K2 k2 => ?_
 replace H := H.keep [1, 2, 5, 8, 9] rfl
 refine seq_list fun K3 k3 => ?_
 refine ls 4 H <| sd ((does_loadBox agg_25 sz_25 rfl S (i := 2) rfl rfl)) <| sr 2 rfl <| sl S 1 one_3 rfl rfl rfl <| sE ?_;clear H a;intro a H
 refine list_call H rfl rfl Try.func65 rfl rfl (ways_leaving pl ps PA pc xs XA xc out pe BA bc T0 _ (hps.now S) hpn (hxs.now S) hxn (hpe.now S) hpen) ?_;clear H a
 rintro _ _ a ⟨rfl, S2⟩ H
 replace S := S.call S2;clear S2
 refine ls 1 H <| sr 1 rfl <| sE ?_;clear H a;intro a H
 refine k3 _ _ ?_;clear k3 K3
 refine sS H fun K4 k4=>sr 2 rfl <| sE ?_;clear H a;intro a H
 refine k4 _ ?_;clear k4 K4
 refine condN H rfl (fun hc1 => ?_) (fun hc1 => ?_)
 ·skip
  replace H := H.keep [12] rfl
  refine sS H fun K5 k5=>sr 3 rfl <| sE ?_;clear H a;intro a H
  refine k5 _ ?_;clear k5 K5
  refine wp_ret ?_
  refine retM2 (fn := Try.f36) rfl H rfl rfl ?_
  rw [bound_err hc1]
  exact ⟨rfl, (S.sel [] rfl rfl)⟩
 obtain ⟨hst, hou, hcr, hti⟩ := leaveE_ok hc1
 have hV0 := st_valid hst
 obtain ⟨P, rfl⟩ : ∃ P : Nat, pl = P := ⟨pl.toNat, by have := hV0.size; omega⟩
 have hV := hV0
 obtain ⟨hpp, hpl'⟩ := crowd_ok hcr
 have hpl : pe.length = P := by omega
 obtain ⟨T, rfl⟩ : ∃ T : Nat, T0 = T := ⟨T0.toNat, by omega⟩
 have hT : T ≤ 60 := by omega
 have hP10 := hV.size
 refine wp_skip ?_
 refine k2 _ _ ?_
 refine wp_seq_k fun K6 k6 => ?_
 refine sS H fun K7 k7=>sl S 0 one_23 rfl rfl rfl <| sL sl_23 rfl <| sf fo_25_0 rfl <| sl S 2 one_3 rfl rfl rfl <| sr 1 rfl <| sE ?_;clear H a;intro a H
 refine k7 _ ?_;clear k7 K7
 refine condN H rfl (fun hc2 => ?_) (fun hc2 => ?_)
 ·skip
  replace H := H.keep [] rfl
  refine sS H fun K8 k8=>sr 2 rfl <| sE ?_;clear H a;intro a H
  refine k8 _ ?_;clear k8 K8
  refine wp_ret ?_
  refine retM2 (fn := Try.f36) rfl H rfl rfl ?_
  rw [bound_bad hc1 (bar_len (by omega))]
  exact ⟨rfl, (S.sel [] rfl rfl)⟩
 refine wp_skip ?_
 refine k6 _ _ ?_
 refine seq_list fun K9 k9 => ?_
 refine list_alloc H rfl S ze_3 ?_;clear H a S;intro b13 _ a hb13 hbw13 S H
 refine list_store H S (i := 0) rfl rfl rfl rfl sz_3 rfl rfl ?_
 clear H a S;intro _ a S H
 refine k9 _ _ ?_;clear k9 K9
 refine wp_seq_k fun K10 k10 => ?_
 refine sS H fun K11 k11=>sl S 1 one_23 rfl rfl rfl <| sL sl_23 rfl <| sr 1 rfl <| sE ?_;clear H a;intro a H
 refine k11 _ ?_;clear k11 K11
 refine wp_block ?_
 refine loop_st (X := Nat) (R0 := _) [1, 2, 5, 8, 9, 13, 31, 32] H rfl (fun k => [(33, .int .i64 (k : Int))]) (fun k => [boxM b13 3 [.int .i64 (begC (barU bl) pe k)]]) (fun g k => k ≤ bl.length ∧ g + k = bl.length ∧ allN (barAt (T : Int) xs bl) k = true) (bl.length) 0 ?_ (S.sel [0, 1, 2, 3] rfl rfl) (H.keep [33, 1, 2, 5, 8, 9, 13, 31, 32] rfl) ?_
 · exact ⟨by omega, by omega, rfl⟩
 clear H S a
 intro g1 x1 a w1 hp S H K12 k12
 obtain ⟨k, rfl⟩ : ∃ y, y = x1 := ⟨_, rfl⟩
 refine sS H fun K13 k13=>sr 1 rfl <| sE ?_;clear H a;intro a H
 refine k13 _ ?_;clear k13 K13
 refine wp_seq_k fun K14 k14 => ?_
 refine condL H rfl (fun hc3 => ?_) (fun hc3 => ?_)
 ·skip
  refine wp_skip ?_
  refine k14 _ _ ?_
  refine wp_seq_k fun K15 k15 => ?_
  refine wp_block ?_
  refine sS H fun K16 k16=>sr 1 rfl <| si sl_23 sz_3 rfl rfl (hbar.adr (by omega)) (by omega) <| slm one_3 rfl (hbar.rd S (by omega) (by omega)) <| sr 2 rfl <| sE ?_;clear H a;intro a H
  refine k16 _ ?_;clear k16 K16
  refine wp_seq_k fun K17 k17 => ?_
  replace H := H.keep [1, 2, 5, 8, 9, 13, 14, 15, 31, 32, 33] rfl
  refine seq_list fun K18 k18 => ?_
  refine ls 3 H <| sr 1 rfl <| sl S 2 one_3 rfl rfl rfl <| sd (does_add rfl rfl (by unfold i64ok; omega)) <| sE ?_;clear H a;intro a H
  refine list_call H rfl rfl Try.func54 rfl rfl (ways_within _ _ _ _) ?_;clear H a
  rintro _ _ a ⟨rfl, rfl⟩ H
  refine ls 2 H <| sr 2 rfl <| sE ?_;clear H a;intro a H
  apply list_guard (i := 5) (g := 43) (t := 53) (b := false) 10 H S rfl rfl (by kernel_rfl) (by kernel_rfl) rfl rfl
  case h1 =>
   intro hg6
   have hq6 := hg6; try simp only [o1,o2,o3,o4,o5,o6,o7,o8,o9,oa] at hq6
   refine ls 3 H <| sy hg6 <| sf fo_25_2 rfl <| sy hg6 <| sl S 3 one_23 rfl rfl rfl <| sy hg6 <| sr 1 rfl <| sE ?_;intro a H
   refine list_yes' H rfl rfl (by assumption) ?_
   refine list_call H rfl rfl Try.func75 rfl rfl (slices_Contains xs XA xc _ _ (hxs.now S) hxn) ?_
   rintro _ _ a ⟨rfl, S2⟩ H
   replace S := S.call S2;clear S2
   refine ls 6 H <| sy hg6 <| sr 1 rfl <| sg 4 10 48 52 true rfl rfl (fun hg11 => by
       have hq11 := hg11;try simp only [o1,o2,o3,o4,o5,o6,o7,o8,o9,oa] at hq11
       exact sy hg11 <| sr 1 rfl <| sy hg11 <| sl S 2 one_3 rfl rfl rfl <| sy hg11 <| sd (does_add rfl rfl (by unfold i64ok; omega)) <| sy hg11 <| sr 1 rfl <| sz 4 rfl rfl rfl) <| sy hg6 <| sa rfl rfl rfl <| sE ?_;intro a H
   exact wpList_nil ⟨H.strip 7 rfl rfl, (S.sel [0, 1, 2, 3] rfl rfl)⟩
  clear H a S;intro a _ H S
  refine ls 1 H <| so rfl rfl rfl <| sE ?_;clear H a;intro a H
  refine k18 _ _ ?_;clear k18 K18
  refine cond_ H rfl (fun hc4 => ?_) (fun hc4 => ?_)
  ·skip
   try simp only [o1,o2,o3,o4,o5,o6,o7,o8,o9,oa] at hc4
   replace H := H.keep [] rfl
   refine sS H fun K19 k19=>sr 2 rfl <| sE ?_;clear H a;intro a H
   refine k19 _ ?_;clear k19 K19
   refine wp_ret ?_
   refine retM2 (fn := Try.f36) rfl H rfl rfl ?_
   rw [bound_bad hc1 (bar_bad (k := k) (by omega) (barAt_f (by rcases hc4 with h | h; (exact .inl (by omega)); (exact .inr ⟨h.1, by omega⟩))))]
   exact ⟨rfl, (S.sel [] rfl rfl)⟩
  try simp only [o1,o2,o3,o4,o5,o6,o7,o8,o9,oa] at hc4
  have hba := barAt_t (T := (T : Int)) (xs := xs) (bl := bl) (k := k) ⟨by omega, fun hx => by rcases hc4.2 with h | h; (rw [hx] at h; cases h); omega⟩
  refine wp_skip ?_
  refine k17 _ _ ?_
  refine sS H fun K20 k20=>sr 2 rfl <| sE ?_;clear H a;intro a H
  refine k20 _ ?_;clear k20 K20
  refine condL H rfl (fun hc5 => ?_) (fun hc5 => ?_)
  ·skip
   have hbn5 := beg_next (bl := bl) (pe := pe) (k := k)
   rw [if_pos hc5] at hbn5
   have hbb := begC_bd (U := (barU bl)) hpp k
   have hpk := hpp k (by omega)
   replace H := H.keep [1, 2, 5, 8, 9, 13, 14, 31, 32, 33] rfl
   refine one_tail 6 (by kernel_rfl) (by kernel_rfl) ?_
   replace S := S.drew
   refine sF H <| sl S 0 one_3 rfl rfl rfl <| sr 2 rfl <| si sl_23 sz_3 rfl rfl (hpe.adr (by omega)) (by omega) <| slm one_3 rfl (hpe.rd S (by omega) (by omega)) <| sd (does_add rfl rfl (by unfold i64ok; omega)) <| sE ?_;clear H a;intro a H
   refine list_store H S (i := 0) rfl rfl rfl rfl sz_3 rfl rfl ?_
   clear H a S;intro _ a S H
   refine k15 _ _ ?_
   refine sO H <| sd (does_add rfl rfl (by unfold i64ok; omega)) <| sr 1 rfl <| sE ?_;clear H a;intro a H
   rw [← hbn5] at S
   exact k12 (g1 - 1) (k + 1) a _ (by omega) (⟨by omega, by omega, allN_step hp.2.2 hba⟩) (S.sel [0, 1, 2, 3] rfl rfl) (H.keep [33, 1, 2, 5, 8, 9, 13, 31, 32] rfl)
  have hbn5 := beg_next (bl := bl) (pe := pe) (k := k)
  rw [if_neg (by omega), Int.add_zero] at hbn5
  refine wp_skip ?_
  refine k15 _ _ ?_
  replace H := H.keep [1, 2, 5, 8, 9, 13, 31, 32, 33] rfl
  refine sO H <| sd (does_add rfl rfl (by unfold i64ok; omega)) <| sr 1 rfl <| sE ?_;clear H a;intro a H
  rw [← hbn5] at S
  exact k12 (g1 - 1) (k + 1) a _ (by omega) (⟨by omega, by omega, allN_step hp.2.2 hba⟩) (S.sel [0, 1, 2, 3] rfl rfl) (H.keep [33, 1, 2, 5, 8, 9, 13, 31, 32] rfl)
 refine wp_exit ?_
 refine k10 _ _ ?_
 refine wp_seq_k fun K24 k24 => ?_
 refine seq_list fun K25 k25 => ?_
 refine ls 2 H <| sd ((does_loadBox agg_25 sz_25 rfl S (i := 3) rfl rfl)) <| sr 1 rfl <| sE ?_;clear H a;intro a H
 refine list_call H rfl rfl Try.func76 rfl rfl (ways_headings (P : Int) ps PA pc xs XA xc out _) ?_;clear H a
 rintro _ _ a ⟨b2, b3, rfl, S2⟩ H
 replace S := S.call S2;clear S2
 refine k25 _ _ ?_;clear k25 K25
 refine wp_block ?_
 replace H := H.keep [8, 9, 13, 66] rfl
 obtain rfl : k = bl.length := by omega
 have hbo := bar_all (P := (P : Int)) (by omega) hp.2.2
 have hbk := (barOk_ok hbo).2
 have hPl : bl.length = P := by omega
 rw [show begC (barU bl) pe bl.length = (begC (barU bl) pe P + hdC (barU bl) T ((hds out xs ps).take 0)) by rw [hPl]; simp [hdC]] at S
 have SB := St.pack (Ms := [_, _, _]) (R := [_, _, _]) (S.sel [4, 3, 2, 0, 1, 5] rfl rfl)
 refine range_st (cnt := (hds out xs ps).length) H SB rfl Try.func92 rfl rfl rfl rfl rfl ze_120 (fun i => Hd.cells ((hds out xs ps).getD i Hd.zero)) (fun _ => rfl) sz_120 (fun _ => rfl) (fun i M => M = bun [boxM b8 3 [.int .i64 (T : Int)], boxM b9 23 [.slice DA bl.length dc], boxM b13 3 [.int .i64 (begC (barU bl) pe P + hdC (barU bl) T ((hds out xs ps).take i))]]) (rfl) (fun w00 F00 => InS w00 F00 1 DA bl.length (icl bl)) ?_ ?_ ?_
 ·intro ly Jm M w9 hJ9 S hr9
  have S1 := (S.sel [0, 1, 2] rfl rfl)
  refine ret_imp (heads_iter (P : Int) ps PA pc xs XA xc out b2 b3 ly Jm M w9 _ hJ9 S1.startR (hps.nowR S1) hpn (hxs.nowR S1) hxn (fun k hk h3 => by have := psgOk_iff.1 (hV.pas k hk); omega) hou.1 (fun i m' x w1 hi hJ SX => hr9 i m' x _ _ w1 hi hJ (hbar.nowR S1) SX)) ?_
  rintro _ _ ⟨m', hJ', S2⟩
  exact ⟨m', hJ', ((S.sel [0, 1, 2, 3] rfl rfl).callR (M := [_, _, _]) S2).sel [0, 1, 2, 3] rfl rfl⟩
 ·intro ly i m9 x9 w00 F00 w9 a b16 hi9 hJ9 hIn9 S H
  subst hJ9
  have hH9 := hds_ok (out := out) hV i hi9
  unfold HdOk at hH9
  have hw9 := hds_wide (out := out) hV i hi9
  have hcn := hds_le (out := out) (xs := xs) (ps := ps) ps.length
  have hdb := hdC_bd (U := (barU bl)) (T := T) (hds_wide (out := out) hV) hT i (by omega)
  have hil : i ≤ 48 := by unfold hds at hi9; omega
  have hbb := begC_bd (U := (barU bl)) hpp P
  have hbf := hbk ((hds out xs ps).getD i Hd.zero).fr.toNat (by omega)
  replace S := St.unpack (S.sel [1, 0, 2] rfl rfl)
  refine Rd.wp_block ?_
  refine Rd.sS H fun K26 k26=>sl S 1 one_23 rfl rfl rfl <| sf fo_120_1 rfl <| sl S 3 one_3 rfl rfl rfl <| sI sl_23 sz_3 rfl rfl (hbar.adr (by omega)) (by omega) (by omega) <| slm one_3 rfl (hIn9.rd S (by omega) (by omega)) <| sr 1 rfl <| sE ?_;clear H a;intro a H
  refine k26 _ ?_;clear k26 K26
  refine Rd.wp_block ?_
  rw [show (begC (barU bl) pe P + hdC (barU bl) T ((hds out xs ps).take i)) = (begC (barU bl) pe P + hdC (barU bl) T ((hds out xs ps).take i)) + (sm (hC (barU bl) T ((hds out xs ps).getD i Hd.zero).fr.toNat ((hds out xs ps).getD i Hd.zero).to.toNat ((hds out xs ps).getD i Hd.zero).ticks ((hds out xs ps).getD i Hd.zero).wide) (bl.getD ((hds out xs ps).getD i Hd.zero).fr.toNat 0).toNat) by rw [hC_before (by omega), Int.add_zero]] at S
  rw [show icl bl ((hds out xs ps).getD i Hd.zero).fr.toNat 0 = .int .i64 (((bl.getD ((hds out xs ps).getD i Hd.zero).fr.toNat 0).toNat : Nat) : Int) by unfold icl; rw [Int.toNat_of_nonneg (by omega)]] at H
  refine Rd.loop_st (X := Nat) (R0 := _) [8, 9, 13, 16] H rfl (fun t => [(17, .int .i64 (t : Int))]) (fun t => [boxM b13 3 [.int .i64 ((begC (barU bl) pe P + hdC (barU bl) T ((hds out xs ps).take i)) + (sm (hC (barU bl) T ((hds out xs ps).getD i Hd.zero).fr.toNat ((hds out xs ps).getD i Hd.zero).to.toNat ((hds out xs ps).getD i Hd.zero).ticks ((hds out xs ps).getD i Hd.zero).wide) t))]]) (fun g t => bl.getD ((hds out xs ps).getD i Hd.zero).fr.toNat 0 ≤ (t : Int) ∧ t ≤ T + 1 ∧ g + t = T + 1) (T + 1 - (bl.getD ((hds out xs ps).getD i Hd.zero).fr.toNat 0).toNat) (bl.getD ((hds out xs ps).getD i Hd.zero).fr.toNat 0).toNat ?_ (S.sel [2, 0, 1, 3, 4] rfl rfl) (H.keep [17, 8, 9, 13, 16] rfl) ?_
  · exact ⟨by omega, by omega, by omega⟩
  clear H S a
  intro g2 x2 a w2 hp S H K27 k27
  obtain ⟨t, rfl⟩ : ∃ y, y = x2 := ⟨_, rfl⟩
  refine Rd.wp_seq_k fun K28 k28 => ?_
  refine Rd.sS H fun K29 k29=>sr 1 rfl <| sf fo_120_3 rfl <| sl S 3 one_3 rfl rfl rfl <| sd (does_add rfl rfl (by unfold i64ok; omega)) <| sl S 1 one_3 rfl rfl rfl <| sr 1 rfl <| sE ?_;clear H a;intro a H
  refine k29 _ ?_;clear k29 K29
  refine Rd.condG H rfl (fun hc6 => ?_) (fun hc6 => ?_)
  ·skip
   refine Rd.wp_skip ?_
   refine k28 _ _ ?_
   refine Rd.wp_seq_k fun K30 k30 => ?_
   refine Rd.wp_block ?_
   replace H := H.keep [8, 9, 13, 16, 17] rfl
   replace S := S.drew
   refine Rd.seq_wq [(0, true), (1, true), (2, true), (3, true), (4, true), (5, true), (6, true), (7, true), (8, true), (9, true)] (by kernel_rfl) (by kernel_rfl) (S.sel [0, 1, 2, 3, 4] rfl rfl) fun K31 k31 => ?_
   refine qF H <| qr 1 rfl <| qd rfl (fun _ S => (does_field fo_120_3 rfl)) <| qd rfl (fun _ S => does_load one_3 rfl (boxM.rd S (i := 3) rfl rfl)) <| qd rfl (fun _ S => does_add rfl rfl (by unfold i64ok; omega)) <| qd rfl (fun _ S => does_load one_23 rfl (boxM.rd S (i := 2) rfl rfl)) <| qd rfl (fun _ S => (does_field fo_120_2 rfl)) <| qd rfl (fun _ S => does_load one_3 rfl (boxM.rd S (i := 3) rfl rfl)) <| qd rfl (fun _ S => does_index sl_23 sz_3 rfl rfl (hbar.adr (by omega)) (by omega) (by omega)) <| qd rfl (fun _ S => does_load one_3 rfl (hIn9.rd S (by omega) (by omega))) <| qr 1 rfl <| qK ?_;clear H a;intro a H
   refine wq_nil ?_
   refine k31 _ _ ?_
   clear k31 K31
   refine Rd.condL H rfl (fun hc7 => ?_) (fun hc7 => ?_)
   ·skip
    have hnx := hC_next (bl := bl) (T := T) (f := ((hds out xs ps).getD i Hd.zero).fr.toNat) (t := ((hds out xs ps).getD i Hd.zero).to.toNat) (d := ((hds out xs ps).getD i Hd.zero).ticks) (c := ((hds out xs ps).getD i Hd.zero).wide) (m := t) (by omega) (by omega) (by omega)
    rw [if_pos hc7] at hnx
    have hcb := hC_bd (U := (barU bl)) (T := T) (f := ((hds out xs ps).getD i Hd.zero).fr.toNat) (t := ((hds out xs ps).getD i Hd.zero).to.toNat) (d := ((hds out xs ps).getD i Hd.zero).ticks) (c := ((hds out xs ps).getD i Hd.zero).wide) (by omega) (m := t)
    replace H := H.keep [8, 9, 13, 16, 17] rfl
    refine Rd.one_list ?_
    refine ls 4 H <| sl S 0 one_3 rfl rfl rfl <| sf fo_120_4 rfl <| sl S 3 one_3 rfl rfl rfl <| sd (does_add rfl rfl (by unfold i64ok; omega)) <| sE ?_;clear H a;intro a H
    refine list_store H S (i := 0) rfl rfl rfl rfl sz_3 rfl rfl ?_
    clear H a S;intro _ a S H
    refine k30 _ _ ?_
    refine Rd.sO H <| sr 1 rfl <| sd (does_add rfl rfl (by unfold i64ok; omega)) <| sr 1 rfl <| sE ?_;clear H a;intro a H
    first | rw [Int.add_assoc (begC (barU bl) pe P + hdC (barU bl) T ((hds out xs ps).take i)), ← hnx] at S | rw [← hnx] at S
    exact k27 (g2 - 1) (t + 1) a _ (by omega) (⟨by omega, by omega, by omega⟩) (S.sel [0, 1, 2, 3, 4] rfl rfl) (H.keep [17, 8, 9, 13, 16] rfl)
   have hnx := hC_next (bl := bl) (T := T) (f := ((hds out xs ps).getD i Hd.zero).fr.toNat) (t := ((hds out xs ps).getD i Hd.zero).to.toNat) (d := ((hds out xs ps).getD i Hd.zero).ticks) (c := ((hds out xs ps).getD i Hd.zero).wide) (m := t) (by omega) (by omega) (by omega)
   rw [if_neg (by omega), Int.add_zero] at hnx
   refine Rd.wp_skip ?_
   refine k30 _ _ ?_
   replace H := H.keep [8, 9, 13, 16, 17] rfl
   refine Rd.sO H <| sr 1 rfl <| sd (does_add rfl rfl (by unfold i64ok; omega)) <| sr 1 rfl <| sE ?_;clear H a;intro a H
   first | rw [Int.add_assoc (begC (barU bl) pe P + hdC (barU bl) T ((hds out xs ps).take i)), ← hnx] at S | rw [← hnx] at S
   exact k27 (g2 - 1) (t + 1) a _ (by omega) (⟨by omega, by omega, by omega⟩) (S.sel [0, 1, 2, 3, 4] rfl rfl) (H.keep [17, 8, 9, 13, 16] rfl)
  refine Rd.wp_exit ?_
  rw [← hC_behind (bl := bl) (T := T) (by omega) (by omega), Int.add_assoc, ← hdC_take hi9] at S
  exact ⟨_, rfl, St.pack (Ms := [_, _, _]) (R := [_]) (S.sel [1, 2, 0, 4] rfl rfl)⟩
 intro D m9 w9 a hJ9 S H
 subst hJ9
 replace S := St.unpack (S.sel [1, 0, 2, 3, 4] rfl rfl)
 refine k24 _ _ ?_
 refine sS H fun K35 k35=>sl S 2 one_3 rfl rfl rfl <| sr 2 rfl <| sE ?_;clear H a;intro a H
 refine k35 _ ?_;clear k35 K35
 refine wp_ret ?_
 refine retC2 (fn := Try.f36) rfl H S (i := 3) rfl rfl rfl (fun _ S => ?_)
 refine ⟨?_, (S.sel [] rfl rfl)⟩
 rw [bound_ok hc1 hbo]
 unfold bndV
 rw [← hds_cap hV hou.1, List.take_length]

end Go.Proofs.Ytlmddkekeoebcaa
