/- TmF. Printed by gen.py. -/
import Derived.Test.YtopmadlgolnmfaaTmE
import Derived.Test.YtopmadlgolnmfaaH2
namespace Go.Proofs.Ytopmadlgolnmfaa
open Go.RowKit
set_option linter.unusedVariables false
set_option linter.unusedSimpArgs false
set_option maxRecDepth 100000
set_option maxHeartbeats 4000000


theorem kind_in {y : Yr} (hok : YOk y) {i : Nat} (hi : i < y.us.length) : 0 ≤ (y.us.getD i Unt.zero).kind ∧ (y.us.getD i Unt.zero).kind ≤ 3 := by
  have h := (hok.unit hi).i
  unfold untI at h
  exact h.2.2.1
theorem stk0 {y : Yr} {l : List Tsk} {k j : Nat} (hk : k < 4) (hj : j < 1) : ([Value.int .i64 0, Value.int .i64 0, Value.int .i64 0, Value.int .i64 0] : List Value).getD k undef = stkC y l 0 0 0 k j := by
  have e : stkC y l 0 0 0 k j = .int .i64 0 := rfl
  rw [e]
  match k, hk with
  | 0, _ => rfl
  | 1, _ => rfl
  | 2, _ => rfl
  | 3, _ => rfl


theorem cal_judge (y : Yr) (cb bl bs bk : Nat) (l : List Tsk) (LA : Option Addr) (lc : Nat) (w : World) (F : Nat → Prop) (S : St w F [boxM cb 120 [.int .i64 y.days, .int .i64 y.pl, .slice y.PA y.ps.length y.pc, .slice y.XA y.xs.length y.xc, .slice y.BA y.pe.length y.bc, .int .i64 y.limit, .bool y.help, .slice y.QA y.prs.length y.qc, .slice y.VA y.us.length y.vc, .int .i64 y.crew, .slice y.SA y.sps.length y.sc, .map (some bl), .map (some bs), .map (some bk)], mapK (encN (n := 21)) bl (livP y), mapK (fun n : Int => Value.int .i64 n) bs (safP y), mapK enc2 bk (kepP y)] w) (hy : YIn w F y) (hyb : YBd y) (hok : YOk y) (hl : InS w F 3 LA l.length (tkcell l)) (hln : l.length ≤ 9223372036854775807) (htk : ∀ k, k < l.length → tskI y (l.getD k Tsk.zero)) (hl60 : l.length ≤ 60) :
    Calls Try.prog 38 [.pointer (some ⟨cb, 0, none⟩), .slice LA l.length lc].toArray w (Ret (fun v w' => v = .tuple #[.int .i64 (judgeV y l).1, .int .i64 (judgeV y l).2] ∧ St w F [boxM cb 120 [.int .i64 y.days, .int .i64 y.pl, .slice y.PA y.ps.length y.pc, .slice y.XA y.xs.length y.xc, .slice y.BA y.pe.length y.bc, .int .i64 y.limit, .bool y.help, .slice y.QA y.prs.length y.qc, .slice y.VA y.us.length y.vc, .int .i64 y.crew, .slice y.SA y.sps.length y.sc, .map (some bl), .map (some bs), .map (some bk)], mapK (encN (n := 21)) bl (livP y), mapK (fun n : Int => Value.int .i64 n) bs (safP y), mapK enc2 bk (kepP y)] w')) := by
 have hmx : maxLen = 9223372036854775807 := rfl
 have hdy := hok.days; have husn := hyb.usn; have hspn := hyb.spn
 have hD : ((y.days.toNat : Nat) : Int) = y.days := by omega
 refine enter Try.func38 rfl Try.ntmps38 rfl (fun a H => ?_)
 skip
 refine sS H fun K1 k1=>sr 2 rfl <| sE ?_;clear H a;intro a H
 refine k1 _ ?_;clear k1 K1
 refine seq_list fun K2 k2 => ?_
 refine ls 2 H <| sr 2 rfl <| sE ?_;clear H a;intro a H
 refine list_call H rfl rfl Try.func39 rfl rfl (cal_out y cb bl bs bk l LA lc _ _ ((S.sel [0, 1, 2, 3] rfl rfl).startR) (hy.nowR (S.sel [0, 1, 2, 3] rfl rfl)) hyb hok (hl.nowR (S.sel [0, 1, 2, 3] rfl rfl)) hln htk) ?_;clear H a
 rintro _ _ a ⟨A6, c6, rfl, S2⟩ H
 replace S := St.callR (M := [_, _, _, _]) (S.sel [0, 1, 2, 3] rfl rfl) S2;clear S2
 refine ls 1 H <| sr 1 rfl <| sE ?_;clear H a;intro a H
 refine k2 _ _ ?_;clear k2 K2
 refine seq_list fun K3 k3 => ?_
 refine list_alloc H rfl S ze_121 ?_;clear H a S;intro b7 _ a hb7 hbw7 S H
 refine k3 _ _ ?_;clear k3 K3
 refine wp_seq_k fun K4 k4 => ?_
 replace S := box_ownL S (i := 0) rfl (by show 4 ≤ maxLen; decide)
 replace S := S.recell (i := 0) rfl (cell' := stkC y l 0 0 0) (fun k9 j9 hk9 hj9 => stk0 hk9 hj9)
 replace H := H.keep [0, 1, 6, 7] rfl
 refine sS H fun K5 k5=>sr 2 rfl <| sf fo_120_0 rfl <| sf fo_30_0 rfl <| sl S 2 one_3 rfl rfl rfl <| sr 1 rfl <| sE ?_;clear H a;intro a H
 refine k5 _ ?_;clear k5 K5
 refine wp_block ?_
 refine loop_st (X := Nat) (R0 := _) [0, 1, 6, 7, 23] H rfl (fun d => [(24, .int .i64 (d : Int))]) (fun d => [ownM 121 1 (some ⟨b7, 0, none⟩) 4 4 (stkC y l d 0 0)]) (fun g d => (d ≤ y.days.toNat ∧ g + d = y.days.toNat) ∧ ∀ q, q < d → faultD y l q = 0) (y.days.toNat) 0 ?_ (S.sel [0, 1, 2, 3, 4, 5] rfl rfl) (H.keep [24, 0, 1, 6, 7, 23] rfl) ?_
 · exact ⟨⟨by omega, by omega⟩, fun q hq => absurd hq (Nat.not_lt_zero q)⟩
 clear H S a
 intro g1 x1 a w1 hp S H K6 k6
 obtain ⟨d, rfl⟩ : ∃ y, y = x1 := ⟨_, rfl⟩
 obtain ⟨⟨hdl, hgd⟩, hfl⟩ := hp
 refine sS H fun K7 k7=>sr 1 rfl <| sE ?_;clear H a;intro a H
 refine k7 _ ?_;clear k7 K7
 refine wp_seq_k fun K8 k8 => ?_
 refine condL H rfl (fun hc1 => ?_) (fun hc1 => ?_)
 ·skip
  refine wp_skip ?_
  refine k8 _ _ ?_
  refine wp_seq_k fun K9 k9 => ?_
  refine wp_block ?_
  refine sS H fun K10 k10=>sr 2 rfl <| sE ?_;clear H a;intro a H
  refine k10 _ ?_;clear k10 K10
  refine wp_seq_k fun K11 k11 => ?_
  replace H := H.keep [0, 1, 6, 7, 8, 23, 24] rfl
  refine sS H fun K12 k12=>sr 2 rfl <| sf fo_120_0 rfl <| sf fo_30_8 rfl <| sl S 2 one_28 rfl rfl rfl <| sL sl_28 rfl <| sr 1 rfl <| sE ?_;clear H a;intro a H
  refine k12 _ ?_;clear k12 K12
  refine wp_block ?_
  refine loop_st (X := Nat) (R0 := _) [0, 1, 6, 7, 8, 23, 24, 31, 32] H rfl (fun n => [(33, .int .i64 (n : Int))]) (fun n => [ownM 121 1 (some ⟨b7, 0, none⟩) 4 4 (stkC y l d n 0)]) (fun g n => n ≤ y.sps.length ∧ g + n = y.sps.length) (y.sps.length) 0 ?_ (S.sel [0, 1, 2, 3, 4, 5] rfl rfl) (H.keep [33, 0, 1, 6, 7, 8, 23, 24, 31, 32] rfl) ?_
  · exact ⟨by omega, by omega⟩
  clear H S a
  intro g2 x2 a w2 hp S H K13 k13
  obtain ⟨n, rfl⟩ : ∃ y, y = x2 := ⟨_, rfl⟩
  refine sS H fun K14 k14=>sr 1 rfl <| sE ?_;clear H a;intro a H
  refine k14 _ ?_;clear k14 K14
  refine wp_seq_k fun K15 k15 => ?_
  refine condL H rfl (fun hc2 => ?_) (fun hc2 => ?_)
  ·skip
   refine wp_skip ?_
   refine k15 _ _ ?_
   refine wp_seq_k fun K16 k16 => ?_
   refine wp_block ?_
   refine seq_list fun K17 k17 => ?_
   refine ls 2 H <| si sl_28 sz_123 rfl rfl (hy.sps.adr (by omega)) (by omega) <| sd ((does_loadIn agg_123 sz_123 rfl S hy.sps (by omega) (by omega))) <| sE ?_;clear H a;intro a H
   refine list_alloc H rfl S ze_123 ?_;clear H a S;intro b10 _ a hb10 hbw10 S H
   refine list_store H S (i := 0) rfl rfl rfl rfl sz_123 rfl rfl ?_
   clear H a S;intro _ a S H
   refine k17 _ _ ?_;clear k17 K17
   have hsq := sprB_iff.1 (hok.yr.2.2.2.2.2 n (by omega))
   refine sS H fun K18 k18=>sf fo_123_0 rfl <| sl S 0 one_3 rfl rfl rfl <| sr 2 rfl <| sE ?_;clear H a;intro a H
   refine k18 _ ?_;clear k18 K18
   refine condE H rfl (fun hc3 => ?_) (fun hc3 => ?_)
   ·skip
    have hb0 := spS_bd (d := d) (k := (y.sps.getD n Spr.zero).kind.toNat) hok n (by omega)
    have hb1 := spS_bd (d := d) (k := (y.sps.getD n Spr.zero).kind.toNat) hok y.sps.length (Nat.le_refl _)
    have hb2 := ovS_bd (y := y) (l := l) (d := d) (k := (y.sps.getD n Spr.zero).kind.toNat) 0
    have hb3 := stk_bd (l := l) (k := (y.sps.getD n Spr.zero).kind.toNat) hok (by omega) d
    have hb4 := hok.yr.2.2.2.2.1
    replace H := H.keep [0, 1, 6, 7, 8, 10, 23, 24, 31, 32, 33] rfl
    refine one_tail 8 (by kernel_rfl) (by kernel_rfl) ?_
    replace S := S.drew
    refine sF H <| sf fo_123_1 rfl <| sl S 0 one_3 rfl rfl rfl <| sd (does_indexArr Try.underlying121 sz_3 rfl rfl (by omega) (by omega)) <| slm one_3 rfl (ownM.rd S (i := 1) (k := (y.sps.getD n Spr.zero).kind.toNat) (j := 0) rfl (by omega) (by omega)) <| sf fo_123_2 rfl <| sl S 0 one_3 rfl rfl rfl <| sd (does_add rfl rfl (by unfold i64ok; omega)) <| sd (does_indexArr Try.underlying121 sz_3 rfl rfl (by omega) (by omega)) <| sE ?_;clear H a;intro a H
    refine list_store_own H S (i := 1) (kk := (y.sps.getD n Spr.zero).kind.toNat) (j := 0) rfl rfl rfl (by omega) (by omega) sz_3 rfl ?_
    clear H a S;intro _ a S H
    refine k16 _ _ ?_
    replace H := H.keep [0, 1, 6, 7, 8, 23, 24, 31, 32, 33] rfl
    refine sO H <| sd (does_add rfl rfl (by unfold i64ok; omega)) <| sr 1 rfl <| sE ?_;clear H a;intro a H
    replace S := S.recell (i := 1) rfl (cell' := stkC y l d (n + 1) 0) (fun k9 j9 hk9 hj9 => stkC_sp (q := (y.sps.getD n Spr.zero).kind.toNat) hc3 (by omega) rfl k9 j9 hj9)
    exact k13 (g2 - 1) (n + 1) a _ (by omega) (⟨by omega, by omega⟩) (S.sel [1, 2, 3, 4, 5, 6] rfl rfl) (H.keep [33, 0, 1, 6, 7, 8, 23, 24, 31, 32] rfl)
   refine wp_skip ?_
   refine k16 _ _ ?_
   refine sO H <| sd (does_add rfl rfl (by unfold i64ok; omega)) <| sr 1 rfl <| sE ?_;clear H a;intro a H
   rw [stkC_no hc3] at S
   exact k13 (g2 - 1) (n + 1) a _ (by omega) (⟨by omega, by omega⟩) (S.sel [1, 2, 3, 4, 5, 6] rfl rfl) (H.keep [33, 0, 1, 6, 7, 8, 23, 24, 31, 32] rfl)
  refine wp_exit ?_
  refine k11 _ _ ?_
  refine sS H fun K22 k22=>sr 2 rfl <| sE ?_;clear H a;intro a H
  refine k22 _ ?_;clear k22 K22
  refine wp_seq_k fun K23 k23 => ?_
  refine sS H fun K24 k24=>sr 1 rfl <| sL sl_31 rfl <| sr 1 rfl <| sE ?_;clear H a;intro a H
  refine k24 _ ?_;clear k24 K24
  refine wp_block ?_
  obtain rfl : n = y.sps.length := by omega
  refine loop_st (X := Nat × Int × Bool) (R0 := _) [0, 1, 6, 7, 8, 23, 24, 50, 51] H rfl (fun ⟨q, jb, sh⟩ => [(11, .int .i64 jb), (12, .bool sh), (52, .int .i64 (q : Int))]) (fun ⟨q, jb, sh⟩ => [ownM 121 1 (some ⟨b7, 0, none⟩) 4 4 (stkC y l d y.sps.length q)]) (fun g ⟨q, jb, sh⟩ => (q ≤ l.length ∧ g + q = l.length) ∧ jb = jbS l d q ∧ sh = shS y l d q) (l.length) (0, 0, false) ?_ (S.sel [0, 1, 2, 3, 4, 5] rfl rfl) (H.keep [11, 12, 52, 0, 1, 6, 7, 8, 23, 24, 50, 51] rfl) ?_
  · exact ⟨⟨by omega, by omega⟩, rfl, rfl⟩
  clear H S a
  intro g3 x3 a w3 hp S H K25 k25
  obtain ⟨q, jb, sh⟩ := x3
  dsimp only at hp S H
  obtain ⟨⟨hql, hgq⟩, hjb9, hsh9⟩ := hp
  refine sS H fun K26 k26=>sr 1 rfl <| sE ?_;clear H a;intro a H
  refine k26 _ ?_;clear k26 K26
  refine wp_seq_k fun K27 k27 => ?_
  refine condL H rfl (fun hc4 => ?_) (fun hc4 => ?_)
  ·skip
   refine wp_skip ?_
   refine k27 _ _ ?_
   refine wp_seq_k fun K28 k28 => ?_
   refine wp_block ?_
   refine seq_list fun K29 k29 => ?_
   refine ls 2 H <| si sl_31 sz_48 rfl rfl (hl.adr (by omega)) (by omega) <| sd ((does_loadIn agg_48 sz_48 rfl S hl (by omega) (by omega))) <| sE ?_;clear H a;intro a H
   refine list_alloc H rfl S ze_48 ?_;clear H a S;intro b14 _ a hb14 hbw14 S H
   refine list_store H S (i := 0) rfl rfl rfl rfl sz_48 rfl rfl ?_
   clear H a S;intro _ a S H
   refine k29 _ _ ?_;clear k29 K29
   refine wp_seq_k fun K30 k30 => ?_
   have htt := htk q (by omega); unfold tskI at htt
   refine sS H fun K31 k31=>sf fo_48_0 rfl <| sl S 0 one_3 rfl rfl rfl <| sr 2 rfl <| sE ?_;clear H a;intro a H
   refine k31 _ ?_;clear k31 K31
   refine condN H rfl (fun hc5 => ?_) (fun hc5 => ?_)
   ·skip
    refine wp_exit ?_
    refine k28 _ _ ?_
    replace H := H.keep [0, 1, 6, 7, 8, 11, 12, 23, 24, 50, 51, 52] rfl
    refine sO H <| sd (does_add rfl rfl (by unfold i64ok; omega)) <| sr 1 rfl <| sE ?_;clear H a;intro a H
    rw [stkC_no2 (fun h => hc5 h.1)] at S
    exact k25 (g3 - 1) (q + 1, _, _) a _ (by omega) (⟨⟨by omega, by omega⟩, jb_no hjb9 hc5, sh_no hsh9 (fun h => hc5 h.1)⟩) (S.sel [1, 2, 3, 4, 5, 6] rfl rfl) (H.keep [11, 12, 52, 0, 1, 6, 7, 8, 23, 24, 50, 51] rfl)
   refine wp_skip ?_
   refine k30 _ _ ?_
   have hjb := jbS_bd (l := l) (d := d) q
   rw [← hjb9] at hjb
   refine sS H fun K33 k33=>sr 1 rfl <| sd (does_add rfl rfl (by unfold i64ok; omega)) <| sr 1 rfl <| sE ?_;clear H a;intro a H
   refine k33 _ ?_;clear k33 K33
   refine sS H fun K34 k34=>sf fo_48_2 rfl <| sl S 0 one_3 rfl rfl rfl <| sr 1 rfl <| sE ?_;clear H a;intro a H
   refine k34 _ ?_;clear k34 K34
   refine condE H rfl (fun hc6 => ?_) (fun hc6 => ?_)
   ·skip
    have hkk := kind_in hok (show (l.getD q Tsk.zero).unit.toNat < y.us.length by omega)
    replace H := H.keep [0, 1, 6, 7, 8, 11, 12, 14, 23, 24, 50, 51, 52] rfl
    replace S := S.drew
    refine sD H fun K35 k35=>sr 2 rfl <| sf fo_120_0 rfl <| sf fo_30_6 rfl <| sl S 3 one_27 rfl rfl rfl <| sf fo_48_1 rfl <| sl S 0 one_3 rfl rfl rfl <| sI sl_27 sz_65 rfl rfl (hy.us.adr (by omega)) (by omega) (by omega) <| sp fo_65_8 rfl <| slm one_3 rfl (hy.us.rd S (by omega) (by omega)) <| sr 1 rfl <| sE ?_;clear H a;intro a H
    refine k35 _ ?_;clear k35 K35
    have hb1 := spS_bd (d := d) (k := (y.us.getD (l.getD q Tsk.zero).unit.toNat Unt.zero).kind.toNat) hok y.sps.length (Nat.le_refl _)
    have hb2 := ovS_bd (y := y) (l := l) (d := d) (k := (y.us.getD (l.getD q Tsk.zero).unit.toNat Unt.zero).kind.toNat) q
    have hb3 := stk_bd (l := l) (k := (y.us.getD (l.getD q Tsk.zero).unit.toNat Unt.zero).kind.toNat) hok (by omega) d
    have hb4 := hok.yr.2.2.2.2.1
    replace H := H.keep [0, 1, 6, 7, 8, 11, 12, 15, 23, 24, 50, 51, 52] rfl
    refine seq_list fun K36 k36 => ?_
    refine ls 5 H <| sr 1 rfl <| sd (does_indexArr Try.underlying121 sz_3 rfl rfl (by omega) (by omega)) <| slm one_3 rfl (ownM.rd S (i := 1) (k := (y.us.getD (l.getD q Tsk.zero).unit.toNat Unt.zero).kind.toNat) (j := 0) rfl (by omega) (by omega)) <| sd (does_sub rfl rfl (by unfold i64ok; omega)) <| sd (does_indexArr Try.underlying121 sz_3 rfl rfl (by omega) (by omega)) <| sE ?_;clear H a;intro a H
    refine list_store_own H S (i := 1) (kk := (y.us.getD (l.getD q Tsk.zero).unit.toNat Unt.zero).kind.toNat) (j := 0) rfl rfl rfl (by omega) (by omega) sz_3 rfl ?_
    clear H a S;intro _ a S H
    refine k36 _ _ ?_;clear k36 K36
    replace S := S.recell (i := 1) rfl (cell' := stkC y l d y.sps.length (q + 1)) (fun k9 j9 hk9 hj9 => stkC_ov (q := (y.us.getD (l.getD q Tsk.zero).unit.toNat Unt.zero).kind.toNat) ⟨by omega, hc6⟩ (show tkK y l q = _ by unfold tkK; omega) rfl k9 j9 hj9)
    replace H := H.keep [0, 1, 6, 7, 8, 11, 12, 15, 23, 24, 50, 51, 52] rfl
    refine sO H <| sr 2 rfl <| sg 4 1 81 85 false rfl rfl (fun hg2 => sy hg2 <| sr 1 rfl <| sy hg2 <| sd (does_indexArr Try.underlying121 sz_3 rfl rfl (by omega) (by omega)) <| sy hg2 <| slm one_3 rfl (ownM.rd S (i := 1) (k := (y.us.getD (l.getD q Tsk.zero).unit.toNat Unt.zero).kind.toNat) (j := 0) rfl (by omega) (by omega)) <| sy hg2 <| sr 1 rfl <| sz 4 rfl rfl rfl) <| so rfl rfl rfl <| sr 1 rfl <| sE ?_;clear H a;intro a H
    refine k28 _ _ ?_
    replace H := H.keep [0, 1, 6, 7, 8, 11, 12, 23, 24, 50, 51, 52] rfl
    refine sO H <| sd (does_add rfl rfl (by unfold i64ok; omega)) <| sr 1 rfl <| sE ?_;clear H a;intro a H
    
    exact k25 (g3 - 1) (q + 1, _, _) a _ (by omega) (⟨⟨by omega, by omega⟩, jb_yes hjb9 (by omega), sh_yes (q := (y.us.getD (l.getD q Tsk.zero).unit.toNat Unt.zero).kind.toNat) hsh9 ⟨by omega, hc6⟩ (show tkK y l q = _ by unfold tkK; omega) rfl⟩) (S.sel [1, 2, 3, 4, 5, 6] rfl rfl) (H.keep [11, 12, 52, 0, 1, 6, 7, 8, 23, 24, 50, 51] rfl)
   skip
   refine wp_skip ?_
   refine k28 _ _ ?_
   refine sO H <| sd (does_add rfl rfl (by unfold i64ok; omega)) <| sr 1 rfl <| sE ?_;clear H a;intro a H
   rw [stkC_no2 (fun h => hc6 h.2)] at S
   exact k25 (g3 - 1) (q + 1, _, _) a _ (by omega) (⟨⟨by omega, by omega⟩, jb_yes hjb9 (by omega), sh_no hsh9 (fun h => hc6 h.2)⟩) (S.sel [1, 2, 3, 4, 5, 6] rfl rfl) (H.keep [11, 12, 52, 0, 1, 6, 7, 8, 23, 24, 50, 51] rfl)
  refine wp_exit ?_
  refine k23 _ _ ?_
  refine wp_block ?_
  obtain rfl : q = l.length := by omega
  subst hjb9
  subst hsh9
  replace H := H.keep [0, 1, 6, 7, 8, 11, 12, 23, 24] rfl
  refine sS H fun K40 k40=>sr 3 rfl <| sf fo_120_0 rfl <| sf fo_30_7 rfl <| sl S 2 one_3 rfl rfl rfl <| sr 2 rfl <| sE ?_;clear H a;intro a H
  refine k40 _ ?_;clear k40 K40
  refine condL H rfl (fun hc7 => ?_) (fun hc7 => ?_)
  ·skip
   replace H := H.keep [8] rfl
   refine sS H fun K41 k41=>sr 3 rfl <| sE ?_;clear H a;intro a H
   refine k41 _ ?_;clear k41 K41
   refine wp_ret ?_
   refine ret2 (fn := Try.f38) rfl H rfl rfl ?_
   rw [judge_at (show d < y.days.toNat by omega) hfl (by rw [fault_1 (by omega)]; decide), fault_1 (by omega)]
   exact ⟨rfl, (S.sel [2, 3, 4, 5] rfl rfl)⟩
  refine sS H fun K42 k42=>sr 2 rfl <| sE ?_;clear H a;intro a H
  refine k42 _ ?_;clear k42 K42
  refine cond_ H rfl (fun hc8 => ?_) (fun hc8 => ?_)
  ·skip
   try simp only [o1,o2,o3,o4,o5,o6,o7,o8,o9,oa] at hc8
   refine sS H fun K43 k43=>sr 3 rfl <| sE ?_;clear H a;intro a H
   refine k43 _ ?_;clear k43 K43
   refine wp_ret ?_
   refine ret2 (fn := Try.f38) rfl H rfl rfl ?_
   rw [judge_at (show d < y.days.toNat by omega) hfl (by rw [fault_2 (by omega) hc8]; decide), fault_2 (by omega) hc8]
   exact ⟨rfl, (S.sel [2, 3, 4, 5] rfl rfl)⟩
  try simp only [o1,o2,o3,o4,o5,o6,o7,o8,o9,oa] at hc8
  replace H := H.keep [0, 1, 6, 7, 8, 23, 24] rfl
  refine seq_list fun K44 k44 => ?_
  refine ls 6 H <| sr 4 rfl <| si sl_23 sz_3 rfl rfl (ownM.adr S (i := 1) rfl (by omega)) (by omega) <| slm one_3 rfl (ownM.rd S (i := 1) (k := d) (j := 0) rfl (by omega) (by omega)) <| sE ?_;clear H a;intro a H
  refine list_call H rfl rfl Try.func62 rfl rfl (cal_keeps y cb bl bs bk (d : Int) (outY y l d y.us.length) _ _ ((S.sel [2, 3, 4, 5] rfl rfl).startR) (hy.nowR (S.sel [2, 3, 4, 5] rfl rfl)) hyb hok (outY_bd hok (Nat.le_refl _))) ?_;clear H a
  rintro _ _ a ⟨rfl, S2⟩ H
  replace S := St.callR (M := [_, _, _, _]) (S.sel [2, 3, 4, 5, 0, 1] rfl rfl) S2;clear S2
  refine ls 2 H <| sr 2 rfl <| sE ?_;clear H a;intro a H
  refine k44 _ _ ?_;clear k44 K44
  refine cond_ H rfl (fun hc9 => ?_) (fun hc9 => ?_)
  ·skip
   try simp only [o1,o2,o3,o4,o5,o6,o7,o8,o9,oa] at hc9
   replace H := H.keep [8] rfl
   refine sS H fun K45 k45=>sr 3 rfl <| sE ?_;clear H a;intro a H
   refine k45 _ ?_;clear k45 K45
   refine wp_ret ?_
   refine ret2 (fn := Try.f38) rfl H rfl rfl ?_
   rw [judge_at (show d < y.days.toNat by omega) hfl (by rw [fault_3 (by omega) hc8 hc9]; decide), fault_3 (by omega) hc8 hc9]
   exact ⟨rfl, (S.sel [0, 1, 2, 3] rfl rfl)⟩
  try simp only [o1,o2,o3,o4,o5,o6,o7,o8,o9,oa] at hc9
  replace H := H.keep [0, 1, 6, 7, 8, 23, 24] rfl
  refine seq_list fun K46 k46 => ?_
  refine ls 5 H <| sr 3 rfl <| si sl_23 sz_3 rfl rfl (ownM.adr S (i := 5) rfl (by omega)) (by omega) <| slm one_3 rfl (ownM.rd S (i := 5) (k := d) (j := 0) rfl (by omega) (by omega)) <| sE ?_;clear H a;intro a H
  refine list_call H rfl rfl Try.func63 rfl rfl (cal_leaves y cb bl bs bk (outY y l d y.us.length) _ _ ((S.sel [0, 1, 2, 3] rfl rfl).startR) (hy.nowR (S.sel [0, 1, 2, 3] rfl rfl)) hyb hok (outY_bd hok (Nat.le_refl _))) ?_;clear H a
  rintro _ _ a ⟨rfl, S2⟩ H
  replace S := St.callR (M := [_, _, _, _]) (S.sel [0, 1, 2, 3, 4, 5] rfl rfl) S2;clear S2
  refine ls 2 H <| sr 2 rfl <| sE ?_;clear H a;intro a H
  refine k46 _ _ ?_;clear k46 K46
  refine cond_ H rfl (fun hc10 => ?_) (fun hc10 => ?_)
  ·skip
   try simp only [o1,o2,o3,o4,o5,o6,o7,o8,o9,oa] at hc10
   replace H := H.keep [8] rfl
   refine sS H fun K47 k47=>sr 3 rfl <| sE ?_;clear H a;intro a H
   refine k47 _ ?_;clear k47 K47
   refine wp_ret ?_
   refine ret2 (fn := Try.f38) rfl H rfl rfl ?_
   rw [judge_at (show d < y.days.toNat by omega) hfl (by rw [fault_4 (by omega) hc8 hc9 hc10]; decide), fault_4 (by omega) hc8 hc9 hc10]
   exact ⟨rfl, (S.sel [0, 1, 2, 3] rfl rfl)⟩
  try simp only [o1,o2,o3,o4,o5,o6,o7,o8,o9,oa] at hc10
  refine wp_skip ?_
  refine k9 _ _ ?_
  refine sO H <| sd (does_add rfl rfl (by unfold i64ok; omega)) <| sr 1 rfl <| sE ?_;clear H a;intro a H
  rw [stkC_next] at S
  exact k6 (g1 - 1) (d + 1) a _ (by omega) (⟨⟨by omega, by omega⟩, flt_next hfl (fault_0 (by omega) hc8 hc9 hc10)⟩) (S.sel [4, 5, 0, 1, 2, 3] rfl rfl) (H.keep [24, 0, 1, 6, 7, 23] rfl)
 refine wp_exit ?_
 refine k4 _ _ ?_
 refine sS H fun K49 k49=>sr 2 rfl <| sE ?_;clear H a;intro a H
 refine k49 _ ?_;clear k49 K49
 refine wp_ret ?_
 refine ret2 (fn := Try.f38) rfl H rfl rfl ?_
 rw [judge_none (fun q hq => hfl q (by omega))]
 exact ⟨rfl, (S.sel [2, 3, 4, 5] rfl rfl)⟩

theorem tm_Out (y : Yr) (l : List Tsk) (LA : Option Addr) (lc : Nat) (w : World) (hy : YIn w noF y) (hyb : YBd y) (hl : InS w noF 3 LA l.length (tkcell l)) (hln : l.length ≤ 9223372036854775807) :
    Calls Try.prog 13 [.agg [.int .i64 y.days, .int .i64 y.pl, .slice y.PA y.ps.length y.pc, .slice y.XA y.xs.length y.xc, .slice y.BA y.pe.length y.bc, .int .i64 y.limit, .bool y.help, .slice y.QA y.prs.length y.qc, .slice y.VA y.us.length y.vc, .int .i64 y.crew, .slice y.SA y.sps.length y.sc].toArray, .slice LA l.length lc].toArray w (Ret (fun v w' => (taskE y l ≠ 0 ∧ v = .tuple #[.slice none 0 0, .int .i64 (taskE y l)] ∧ St w noF [] w') ∨ (taskE y l = 0 ∧ ∃ A c, v = .tuple #[.slice A y.days.toNat c, .int .i64 0] ∧ St w noF [ownM 3 1 A y.days.toNat c (setsV y l y.us.length)] w'))) := by
 refine enter Try.func13 rfl Try.ntmps13 rfl (fun a H => ?_)
 have S := St.start w
 refine seq_list fun K1 k1 => ?_
 refine list_box H rfl S rfl rfl ?_;clear H a S;intro b2 _ a hb2 hbw2 S H
 refine ls 2 H <| sr 2 rfl <| sE ?_;clear H a;intro a H
 refine k1 _ _ ?_;clear k1 K1
 refine wp_seq_k fun K2 k2 => ?_
 refine seq_list fun K3 k3 => ?_
 refine ls 2 H <| sd ((does_loadBox agg_30 sz_30 rfl S (i := 0) rfl rfl)) <| sr 1 rfl <| sE ?_;clear H a;intro a H
 refine list_call H rfl rfl Try.func36 rfl rfl (tm_Check y l LA lc _ (hy.now S) hyb (hl.now S) hln) ?_;clear H a
 rintro _ _ a ⟨rfl, S2⟩ H
 replace S := S.call S2;clear S2
 refine ls 1 H <| sr 1 rfl <| sE ?_;clear H a;intro a H
 refine k3 _ _ ?_;clear k3 K3
 refine sS H fun K4 k4=>sr 2 rfl <| sE ?_;clear H a;intro a H
 refine k4 _ ?_;clear k4 K4
 refine condN H rfl (fun hc1 => ?_) (fun hc1 => ?_)
 ·skip
  replace H := H.keep [6] rfl
  refine sS H fun K5 k5=>sr 3 rfl <| sE ?_;clear H a;intro a H
  refine k5 _ ?_;clear k5 K5
  refine wp_ret ?_
  refine ret2 (fn := Try.f13) rfl H rfl rfl ?_
  exact .inl ⟨hc1, rfl, (S.sel [] rfl rfl)⟩
 have hte : taskE y l = 0 := by omega
 have htk0 := task_ok hte
 have hok := year_ok htk0.1
 have htk : ∀ k, k < l.length → tskI y (l.getD k Tsk.zero) := fun k hk => tsk_in (htk0.2.2 k hk)
 refine wp_skip ?_
 refine k2 _ _ ?_
 refine seq_list fun K6 k6 => ?_
 refine ls 1 H <| sd ((does_loadBox agg_30 sz_30 rfl S (i := 0) rfl rfl)) <| sE ?_;clear H a;intro a H
 refine list_call H rfl rfl Try.func37 rfl rfl (tm_open y _) ?_;clear H a
 rintro _ _ a ⟨cb, bl, bs, bk, rfl, S2⟩ H
 replace S := S.call S2;clear S2
 refine ls 1 H <| sr 1 rfl <| sE ?_;clear H a;intro a H
 refine list_call H rfl rfl Try.func39 rfl rfl (cal_out y cb bl bs bk l LA lc _ _ ((S.sel [0, 1, 2, 3] rfl rfl).startR) (hy.nowR (S.sel [0, 1, 2, 3] rfl rfl)) hyb hok (hl.nowR (S.sel [0, 1, 2, 3] rfl rfl)) hln htk) ?_;clear H a
 rintro _ _ a ⟨A6, c6, rfl, S2⟩ H
 replace S := St.callR (M := [_, _, _, _]) (S.sel [0, 1, 2, 3, 4] rfl rfl) S2;clear S2
 refine ls 2 H <| sr 2 rfl <| sE ?_;clear H a;intro a H
 refine k6 _ _ ?_;clear k6 K6
 refine wp_ret ?_
 refine ret2 (fn := Try.f13) rfl H rfl rfl ?_
 exact .inr ⟨hte, A6, c6, rfl, (S.sel [0] rfl rfl)⟩

theorem tm_Judge (y : Yr) (l : List Tsk) (LA : Option Addr) (lc : Nat) (w : World) (hy : YIn w noF y) (hyb : YBd y) (hl : InS w noF 3 LA l.length (tkcell l)) (hln : l.length ≤ 9223372036854775807) :
    Calls Try.prog 12 [.agg [.int .i64 y.days, .int .i64 y.pl, .slice y.PA y.ps.length y.pc, .slice y.XA y.xs.length y.xc, .slice y.BA y.pe.length y.bc, .int .i64 y.limit, .bool y.help, .slice y.QA y.prs.length y.qc, .slice y.VA y.us.length y.vc, .int .i64 y.crew, .slice y.SA y.sps.length y.sc].toArray, .slice LA l.length lc].toArray w (Ret (fun v w' => (taskE y l ≠ 0 ∧ v = .tuple #[.int .i64 0, .int .i64 0, .int .i64 (taskE y l)] ∧ St w noF [] w') ∨ (taskE y l = 0 ∧ v = .tuple #[.int .i64 (judgeV y l).1, .int .i64 (judgeV y l).2, .int .i64 0] ∧ St w noF [] w'))) := by
 refine enter Try.func12 rfl Try.ntmps12 rfl (fun a H => ?_)
 have S := St.start w
 refine seq_list fun K1 k1 => ?_
 refine list_box H rfl S rfl rfl ?_;clear H a S;intro b2 _ a hb2 hbw2 S H
 refine ls 3 H <| sr 3 rfl <| sE ?_;clear H a;intro a H
 refine k1 _ _ ?_;clear k1 K1
 refine wp_seq_k fun K2 k2 => ?_
 refine seq_list fun K3 k3 => ?_
 refine ls 2 H <| sd ((does_loadBox agg_30 sz_30 rfl S (i := 0) rfl rfl)) <| sr 1 rfl <| sE ?_;clear H a;intro a H
 refine list_call H rfl rfl Try.func36 rfl rfl (tm_Check y l LA lc _ (hy.now S) hyb (hl.now S) hln) ?_;clear H a
 rintro _ _ a ⟨rfl, S2⟩ H
 replace S := S.call S2;clear S2
 refine ls 1 H <| sr 1 rfl <| sE ?_;clear H a;intro a H
 refine k3 _ _ ?_;clear k3 K3
 replace H := H.keep [1, 2, 6] rfl
 refine sS H fun K4 k4=>sr 2 rfl <| sE ?_;clear H a;intro a H
 refine k4 _ ?_;clear k4 K4
 refine condN H rfl (fun hc1 => ?_) (fun hc1 => ?_)
 ·skip
  refine sS H fun K5 k5=>sr 4 rfl <| sE ?_;clear H a;intro a H
  refine k5 _ ?_;clear k5 K5
  refine wp_ret ?_
  refine ret3 (fn := Try.f12) rfl H rfl rfl rfl ?_
  exact .inl ⟨hc1, rfl, (S.sel [] rfl rfl)⟩
 have hte : taskE y l = 0 := by omega
 have htk0 := task_ok hte
 have hok := year_ok htk0.1
 have htk : ∀ k, k < l.length → tskI y (l.getD k Tsk.zero) := fun k hk => tsk_in (htk0.2.2 k hk)
 refine wp_skip ?_
 refine k2 _ _ ?_
 replace H := H.keep [1, 2] rfl
 refine seq_list fun K6 k6 => ?_
 refine ls 1 H <| sd ((does_loadBox agg_30 sz_30 rfl S (i := 0) rfl rfl)) <| sE ?_;clear H a;intro a H
 refine list_call H rfl rfl Try.func37 rfl rfl (tm_open y _) ?_;clear H a
 rintro _ _ a ⟨cb, bl, bs, bk, rfl, S2⟩ H
 replace S := S.call S2;clear S2
 refine ls 1 H <| sr 1 rfl <| sE ?_;clear H a;intro a H
 refine list_call H rfl rfl Try.func38 rfl rfl (cal_judge y cb bl bs bk l LA lc _ _ ((S.sel [0, 1, 2, 3] rfl rfl).startR) (hy.nowR (S.sel [0, 1, 2, 3] rfl rfl)) hyb hok (hl.nowR (S.sel [0, 1, 2, 3] rfl rfl)) hln htk htk0.2.1) ?_;clear H a
 rintro _ _ a ⟨rfl, S2⟩ H
 replace S := St.callR (M := [_, _, _, _]) (S.sel [0, 1, 2, 3, 4] rfl rfl) S2;clear S2
 refine ls 5 H <| sr 5 rfl <| sE ?_;clear H a;intro a H
 refine k6 _ _ ?_;clear k6 K6
 replace H := H.keep [4, 5] rfl
 refine sS H fun K7 k7=>sr 5 rfl <| sE ?_;clear H a;intro a H
 refine k7 _ ?_;clear k7 K7
 refine wp_ret ?_
 refine ret3 (fn := Try.f12) rfl H rfl rfl rfl ?_
 exact .inr ⟨hte, rfl, (S.sel [] rfl rfl)⟩

end Go.Proofs.Ytopmadlgolnmfaa
