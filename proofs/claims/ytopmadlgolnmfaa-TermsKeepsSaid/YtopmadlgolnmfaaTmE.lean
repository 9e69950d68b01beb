/- TmE. Printed by gen.py. -/
import Derived.Test.YtopmadlgolnmfaaTmD
import Derived.Test.YtopmadlgolnmfaaH2
import Derived.Test.YtopmadlgolnmfaaWyI
namespace Go.Proofs.Ytopmadlgolnmfaa
open Go.RowKit
set_option linter.unusedVariables false
set_option linter.unusedSimpArgs false
set_option maxRecDepth 100000
set_option maxHeartbeats 4000000


theorem left_any {y : Yr} {out : Int} {w w' : World} {u : Value} (hl : leaveE y.pl y.ps y.xs out y.pe y.limit = 0) (h : (leaveE y.pl y.ps y.xs out y.pe y.limit ≠ 0 ∧ u = .tuple #[.int .i64 0, .int .i64 (leaveE y.pl y.ps y.xs out y.pe y.limit)] ∧ St w noF [] w') ∨ (leaveE y.pl y.ps y.xs out y.pe y.limit = 0 ∧ u = .tuple #[.int .i64 (mfv y.pl.toNat y.limit.toNat y.pe y.xs (hds out y.xs y.ps)), .int .i64 0] ∧ St w noF [] w')) : ∃ n : Int, u = .tuple #[.int .i64 n, .int .i64 0] ∧ leavB y out = decide (n = sumI y.pe y.pe.length) ∧ St w noF [] w' := by
  rcases h with ⟨h0, _⟩ | ⟨_, rfl, S⟩
  · exact absurd hl h0
  · exact ⟨_, rfl, rfl, S⟩
theorem way_any {y : Yr} {out fr to : Int} {help : Bool} {w w' : World} {u : Value} (ha : askE y.pl y.ps y.xs out [fr, to] = 0) (h : (askE y.pl y.ps y.xs out [fr, to] ≠ 0 ∧ u = .tuple #[.int .i64 0, .slice none 0 0, .int .i64 (askE y.pl y.ps y.xs out [fr, to])] ∧ St w noF [] w') ∨ (askE y.pl y.ps y.xs out [fr, to] = 0 ∧ FarOk y.pl.toNat y.ps out help to.toNat (dst y.pl.toNat y.ps out help to.toNat) ∧ ((dst y.pl.toNat y.ps out help to.toNat fr.toNat < 0 ∧ u = .tuple #[.int .i64 0, .slice none 0 0, .int .i64 3] ∧ St w noF [] w') ∨ (0 ≤ dst y.pl.toNat y.ps out help to.toNat fr.toNat ∧ ∃ A c, u = .tuple #[.int .i64 (dst y.pl.toNat y.ps out help to.toNat fr.toNat), .slice A (wayL y.pl.toNat y.ps out help fr.toNat to.toNat).length c, .int .i64 0] ∧ St w noF [ownM 3 1 A (wayL y.pl.toNat y.ps out help fr.toNat to.toNat).length c (wcl (wayL y.pl.toNat y.ps out help fr.toNat to.toNat))] w')))) : ∃ (t e : Int) (A : Option Addr) (n c : Nat), u = .tuple #[.int .i64 t, .slice A n c, .int .i64 e] ∧ (decide (e = 0) = decide (0 ≤ dst y.pl.toNat y.ps out help to.toNat fr.toNat)) ∧ St w noF [] w' := by
  rcases h with ⟨h0, _⟩ | ⟨_, _, ⟨h1, rfl, S⟩ | ⟨h1, A, c, rfl, S⟩⟩
  · exact absurd ha h0
  · exact ⟨0, 3, none, 0, 0, rfl, by rw [decide_eq_false (show ¬ 0 ≤ dst y.pl.toNat y.ps out help to.toNat fr.toNat by omega)]; rfl, S⟩
  · exact ⟨_, 0, A, _, c, rfl, by rw [decide_eq_true h1]; rfl, S.sel [] rfl rfl⟩
theorem lt40 {m : Int} (h : m ≤ 4095) : m < 2 ^ 40 := by
  have e9 : (2 : Int) ^ 40 = 1099511627776 := by decide
  omega
theorem setsQ_at {y : Yr} {l : List Tsk} {k q : Nat} : setsQ y l k q q 0 = .int .i64 (outY y l q k) := by unfold setsQ; rw [if_neg (Nat.lt_irrefl q)]
theorem sets0 {y : Yr} {l : List Tsk} {k j : Nat} (hj : j < 1) : ([Value.int .i64 0] : List Value).getD j undef = setsV y l 0 k j := by
  have : j = 0 := by omega
  subst this
  rfl
theorem shl_okM {m : Int} (h : 0 ≤ m ∧ m ≤ 11) : i64ok (1 * 2 ^ m.toNat) := by
  have := shl_ok (d := m.toNat) (by omega)
  rw [Int.toNat_natCast] at this
  exact this
section
variable {y : Yr} {d out : Int} {k : Nat} {b : Bool} {e : Int}
theorem keep_skip (hb : b = allN (prmB y d out) k) (h : d < (y.prs.getD k Prm.zero).first ∨ (y.prs.getD k Prm.zero).last < d) : b = allN (prmB y d out) (k + 1) := by
  have : prmB y d out k = true := by
    unfold prmB
    rcases h with h | h
    · rw [decide_eq_false (p := (y.prs.getD k Prm.zero).first ≤ d) (by omega)]; rfl
    · rw [decide_eq_false (p := d ≤ (y.prs.getD k Prm.zero).last) (by omega), Bool.and_false]; rfl
  rw [allN, this, Bool.and_true, hb]
theorem keep_bad (hb : b = allN (prmB y d out) k) (h : (y.prs.getD k Prm.zero).first ≤ d ∧ d ≤ (y.prs.getD k Prm.zero).last) (hw : decide (e = 0) = decide (0 ≤ dst y.pl.toNat y.ps out (y.help && (y.prs.getD k Prm.zero).helped) (y.prs.getD k Prm.zero).to.toNat (y.prs.getD k Prm.zero).fr.toNat)) (he : ¬ e = 0) : false = allN (prmB y d out) (k + 1) := by
  have : prmB y d out k = false := by
    unfold prmB
    rw [← hw, decide_eq_true h.1, decide_eq_true h.2, decide_eq_false he]; rfl
  rw [allN, this, Bool.and_false]
theorem keep_good (hb : b = allN (prmB y d out) k) (h : (y.prs.getD k Prm.zero).first ≤ d ∧ d ≤ (y.prs.getD k Prm.zero).last) (hw : decide (e = 0) = decide (0 ≤ dst y.pl.toNat y.ps out (y.help && (y.prs.getD k Prm.zero).helped) (y.prs.getD k Prm.zero).to.toNat (y.prs.getD k Prm.zero).fr.toNat)) (he : e = 0) : b = allN (prmB y d out) (k + 1) := by
  have : prmB y d out k = true := by
    unfold prmB
    rw [← hw, decide_eq_true he, Bool.or_true]
  rw [allN, this, Bool.and_true, hb]
end
theorem ask_ok {y : Yr} (h : YOk y) {out : Int} (ho : 0 ≤ out ∧ out ≤ 4095) {k : Nat} (hk : k < y.prs.length) : askE y.pl y.ps y.xs out [(y.prs.getD k Prm.zero).fr, (y.prs.getD k Prm.zero).to] = 0 := by
  have h1 := keptE_ok h.kept
  have h2 := prmOk_iff.1 (h1.2.2 k hk)
  have h3 := (dayE_ok h1.1).1
  unfold askE
  rw [if_neg (by omega), if_pos]
  rw [decide_eq_true ho, plOk_two.2 ⟨by omega, by omega⟩]
  rfl


theorem cal_out (y : Yr) (cb bl bs bk : Nat) (l : List Tsk) (LA : Option Addr) (lc : Nat) (w : World) (F : Nat → Prop) (S : St w F [boxM cb 120 [.int .i64 y.days, .int .i64 y.pl, .slice y.PA y.ps.length y.pc, .slice y.XA y.xs.length y.xc, .slice y.BA y.pe.length y.bc, .int .i64 y.limit, .bool y.help, .slice y.QA y.prs.length y.qc, .slice y.VA y.us.length y.vc, .int .i64 y.crew, .slice y.SA y.sps.length y.sc, .map (some bl), .map (some bs), .map (some bk)], mapK (encN (n := 21)) bl (livP y), mapK (fun n : Int => Value.int .i64 n) bs (safP y), mapK enc2 bk (kepP y)] w) (hy : YIn w F y) (hyb : YBd y) (hok : YOk y) (hl : InS w F 3 LA l.length (tkcell l)) (hln : l.length ≤ 9223372036854775807) (htk : ∀ k, k < l.length → tskI y (l.getD k Tsk.zero)) :
    Calls Try.prog 39 [.pointer (some ⟨cb, 0, none⟩), .slice LA l.length lc].toArray w (Ret (fun v w' => ∃ A c, v = .slice A y.days.toNat c ∧ St w F (ownM 3 1 A y.days.toNat c (setsV y l y.us.length) :: [boxM cb 120 [.int .i64 y.days, .int .i64 y.pl, .slice y.PA y.ps.length y.pc, .slice y.XA y.xs.length y.xc, .slice y.BA y.pe.length y.bc, .int .i64 y.limit, .bool y.help, .slice y.QA y.prs.length y.qc, .slice y.VA y.us.length y.vc, .int .i64 y.crew, .slice y.SA y.sps.length y.sc, .map (some bl), .map (some bs), .map (some bk)], mapK (encN (n := 21)) bl (livP y), mapK (fun n : Int => Value.int .i64 n) bs (safP y), mapK enc2 bk (kepP y)]) w')) := by
 have hmx : maxLen = 9223372036854775807 := rfl
 have hdy := hok.days; have husn := hyb.usn
 have hD : ((y.days.toNat : Nat) : Int) = y.days := by omega
 refine enter Try.func39 rfl Try.ntmps39 rfl (fun a H => ?_)
 skip
 refine sS H fun K1 k1=>sr 1 rfl <| sE ?_;clear H a;intro a H
 refine k1 _ ?_;clear k1 K1
 refine seq_list fun K2 k2 => ?_
 refine ls 5 H <| sr 2 rfl <| sf fo_120_0 rfl <| sf fo_30_0 rfl <| sl S 0 one_3 rfl rfl rfl <| sE ?_;clear H a;intro a H
 rw [← hD] at H
 refine list_make (n := y.days.toNat) H rfl S sl_23 sz_3 ze_3 by_3 rfl (by decide) rfl rfl (by omega) (by omega) ?_;clear H a S;intro A1 _ a hA1 S H
 refine ls 1 H <| sr 1 rfl <| sE ?_;clear H a;intro a H
 refine k2 _ _ ?_;clear k2 K2
 refine wp_seq_k fun K3 k3 => ?_
 replace H := H.keep [0, 1, 5] rfl
 refine sS H fun K4 k4=>sr 2 rfl <| sf fo_120_0 rfl <| sf fo_30_6 rfl <| sl S 1 one_27 rfl rfl rfl <| sL sl_27 rfl <| sr 1 rfl <| sE ?_;clear H a;intro a H
 refine k4 _ ?_;clear k4 K4
 refine wp_block ?_
 replace S := S.recell (i := 0) rfl (cell' := setsV y l 0) (fun k9 j9 hk9 hj9 => sets0 hj9)
 refine loop_st (X := Nat) (R0 := _) [0, 1, 5, 20, 21] H rfl (fun k => [(22, .int .i64 (k : Int))]) (fun k => [ownM 3 1 A1 y.days.toNat y.days.toNat (setsV y l k)]) (fun g k => k ≤ y.us.length ∧ g + k = y.us.length) (y.us.length) 0 ?_ (S.sel [0, 1, 2, 3, 4] rfl rfl) (H.keep [22, 0, 1, 5, 20, 21] rfl) ?_
 · exact ⟨by omega, by omega⟩
 clear H S a
 intro g1 x1 a w1 hp S H K5 k5
 obtain ⟨k, rfl⟩ : ∃ y, y = x1 := ⟨_, rfl⟩
 refine sS H fun K6 k6=>sr 1 rfl <| sE ?_;clear H a;intro a H
 refine k6 _ ?_;clear k6 K6
 refine wp_seq_k fun K7 k7 => ?_
 refine condL H rfl (fun hc1 => ?_) (fun hc1 => ?_)
 ·skip
  refine wp_skip ?_
  refine k7 _ _ ?_
  refine wp_seq_k fun K8 k8 => ?_
  refine wp_block ?_
  refine seq_list fun K9 k9 => ?_
  refine ls 3 H <| sr 1 rfl <| si sl_27 sz_65 rfl rfl (hy.us.adr (by omega)) (by omega) <| sd ((does_loadIn agg_65 sz_65 rfl S hy.us (by omega) (by omega))) <| sE ?_;clear H a;intro a H
  refine list_alloc H rfl S ze_65 ?_;clear H a S;intro b7 _ a hb7 hbw7 S H
  refine ls 1 H <| sr 1 rfl <| sE ?_;clear H a;intro a H
  refine list_store H S (i := 0) rfl rfl rfl rfl sz_65 rfl rfl ?_
  clear H a S;intro _ a S H
  refine k9 _ _ ?_;clear k9 K9
  replace H := H.keep [0, 1, 5, 6, 7, 20, 21, 22] rfl
  refine seq_list fun K10 k10 => ?_
  refine ls 3 H <| sr 3 rfl <| sE ?_;clear H a;intro a H
  refine list_call H rfl rfl Try.func64 rfl rfl (cal_life y cb bl bs bk k l LA lc _ _ ((S.sel [2, 3, 4, 5] rfl rfl).startR) (hy.nowR (S.sel [2, 3, 4, 5] rfl rfl)) hyb hok (by omega) (hl.nowR (S.sel [2, 3, 4, 5] rfl rfl)) hln htk) ?_;clear H a
  rintro _ _ a ⟨rfl, S2⟩ H
  replace S := St.callR (M := [_, _, _, _]) (S.sel [2, 3, 4, 5, 0, 1] rfl rfl) S2;clear S2
  refine list_alloc H rfl S ze_101 ?_;clear H a S;intro b8 _ a hb8 hbw8 S H
  refine list_store H S (i := 0) rfl rfl rfl rfl sz_101 rfl rfl ?_
  clear H a S;intro _ a S H
  refine k10 _ _ ?_;clear k10 K10
  refine sS H fun K11 k11=>sr 1 rfl <| sL sl_23 rfl <| sr 1 rfl <| sE ?_;clear H a;intro a H
  refine k11 _ ?_;clear k11 K11
  refine wp_block ?_
  rw [← setsQ_zero] at S
  refine loop_st (X := Nat) (R0 := _) [0, 1, 5, 7, 8, 20, 21, 22, 32] H rfl (fun q => [(33, .int .i64 (q : Int))]) (fun q => [ownM 3 1 A1 y.days.toNat y.days.toNat (setsQ y l k q)]) (fun g q => q ≤ y.days.toNat ∧ g + q = y.days.toNat) (y.days.toNat) 0 ?_ (S.sel [6, 0, 1, 2, 3, 4, 5] rfl rfl) (H.keep [33, 0, 1, 5, 7, 8, 20, 21, 22, 32] rfl) ?_
  · exact ⟨by omega, by omega⟩
  clear H S a
  intro g2 x2 a w2 hp S H K12 k12
  obtain ⟨q, rfl⟩ : ∃ y, y = x2 := ⟨_, rfl⟩
  refine sS H fun K13 k13=>sr 1 rfl <| sE ?_;clear H a;intro a H
  refine k13 _ ?_;clear k13 K13
  refine wp_seq_k fun K14 k14 => ?_
  refine condL H rfl (fun hc2 => ?_) (fun hc2 => ?_)
  ·skip
   refine wp_skip ?_
   refine k14 _ _ ?_
   refine wp_seq_k fun K15 k15 => ?_
   refine wp_block ?_
   refine sS H fun K16 k16=>sr 2 rfl <| sE ?_;clear H a;intro a H
   refine k16 _ ?_;clear k16 K16
   have hmk := unit_mach hok.V (hok.unit (show k < y.us.length by omega))
   refine sS H fun K17 k17=>sf fo_101_0 rfl <| sl S 1 one_3 rfl rfl rfl <| sr 1 rfl <| sd (does_shr rfl rfl (by omega) (by omega)) <| sd (does_and1 rfl rfl) <| sr 1 rfl <| sE ?_;clear H a;intro a H
   refine k17 _ ?_;clear k17 K17
   refine condE H rfl (fun hc3 => ?_) (fun hc3 => ?_)
   ·skip
    have hrn := run_t (y := y) (l := l) (k := k) (show q < y.days.toNat by omega) hc3
    have hob := outY_bd (l := l) (d := q) hok (show k ≤ y.us.length by omega)
    replace H := H.keep [0, 1, 5, 7, 8, 9, 20, 21, 22, 32, 33] rfl
    refine one_tail 9 (by kernel_rfl) (by kernel_rfl) ?_
    replace S := S.drew
    refine sF H <| sr 2 rfl <| si sl_23 sz_3 rfl rfl (ownM.adr S (i := 0) rfl (by omega)) (by omega) <| sd ((does_load one_3 rfl (ownM.rd S (i := 0) (k := q) (j := 0) rfl (by omega) (by omega))).to setsQ_at) <| sf fo_65_0 rfl <| sl S 6 one_3 rfl rfl rfl <| sd (does_shl rfl rfl (by omega) (by omega) (shl_okM hmk.1)) <| sd (does_orW rfl rfl ⟨hob.1, lt40 hob.2⟩ (by omega) (outY_clear hok (by omega))) <| si sl_23 sz_3 rfl rfl (ownM.adr S (i := 0) rfl (by omega)) (by omega) <| sE ?_;clear H a;intro a H
    refine list_store_own H S (i := 0) rfl rfl rfl (by omega) (by omega) sz_3 rfl ?_
    clear H a S;intro _ a S H
    refine k15 _ _ ?_
    replace H := H.keep [0, 1, 5, 7, 8, 20, 21, 22, 32, 33] rfl
    refine sO H <| sd (does_add rfl rfl (by unfold i64ok; omega)) <| sr 1 rfl <| sE ?_;clear H a;intro a H
    replace S := S.recell (i := 0) rfl (cell' := setsQ y l k (q + 1)) (fun k9 j9 hk9 hj9 => setsQ_out hrn rfl k9 j9 hj9)
    exact k12 (g2 - 1) (q + 1) a _ (by omega) (⟨by omega, by omega⟩) (S.sel [0, 1, 2, 3, 4, 5, 6] rfl rfl) (H.keep [33, 0, 1, 5, 7, 8, 20, 21, 22, 32] rfl)
   refine wp_skip ?_
   refine k15 _ _ ?_
   refine sO H <| sd (does_add rfl rfl (by unfold i64ok; omega)) <| sr 1 rfl <| sE ?_;clear H a;intro a H
   rw [setsQ_run (run_f (show q < y.days.toNat by omega) hc3)] at S
   exact k12 (g2 - 1) (q + 1) a _ (by omega) (⟨by omega, by omega⟩) (S.sel [0, 1, 2, 3, 4, 5, 6] rfl rfl) (H.keep [33, 0, 1, 5, 7, 8, 20, 21, 22, 32] rfl)
  refine wp_exit ?_
  refine k8 _ _ ?_
  refine sO H <| sd (does_add rfl rfl (by unfold i64ok; omega)) <| sr 1 rfl <| sE ?_;clear H a;intro a H
  obtain rfl : q = y.days.toNat := by omega
  replace S := S.recell (i := 0) rfl (cell' := setsV y l (k + 1)) setsQ_all
  exact k5 (g1 - 1) (k + 1) a _ (by omega) (⟨by omega, by omega⟩) (S.sel [0, 2, 3, 4, 5] rfl rfl) (H.keep [22, 0, 1, 5, 20, 21] rfl)
 refine wp_exit ?_
 refine k3 _ _ ?_
 refine sS H fun K22 k22=>sr 2 rfl <| sE ?_;clear H a;intro a H
 refine k22 _ ?_;clear k22 K22
 refine wp_ret ?_
 refine ret1 (fn := Try.f39) rfl H rfl ?_
 obtain rfl : k = y.us.length := by omega
 exact ⟨_, _, rfl, (S.sel [0, 1, 2, 3, 4] rfl rfl)⟩

theorem cal_leaves (y : Yr) (cb bl bs bk : Nat) (out : Int) (w : World) (F : Nat → Prop) (S : St w F [boxM cb 120 [.int .i64 y.days, .int .i64 y.pl, .slice y.PA y.ps.length y.pc, .slice y.XA y.xs.length y.xc, .slice y.BA y.pe.length y.bc, .int .i64 y.limit, .bool y.help, .slice y.QA y.prs.length y.qc, .slice y.VA y.us.length y.vc, .int .i64 y.crew, .slice y.SA y.sps.length y.sc, .map (some bl), .map (some bs), .map (some bk)], mapK (encN (n := 21)) bl (livP y), mapK (fun n : Int => Value.int .i64 n) bs (safP y), mapK enc2 bk (kepP y)] w) (hy : YIn w F y) (hyb : YBd y) (hok : YOk y) (ho : 0 ≤ out ∧ out ≤ 4095) :
    Calls Try.prog 63 [.pointer (some ⟨cb, 0, none⟩), .int .i64 out].toArray w (Ret (fun v w' => v = .bool (leavB y out) ∧ St w F [boxM cb 120 [.int .i64 y.days, .int .i64 y.pl, .slice y.PA y.ps.length y.pc, .slice y.XA y.xs.length y.xc, .slice y.BA y.pe.length y.bc, .int .i64 y.limit, .bool y.help, .slice y.QA y.prs.length y.qc, .slice y.VA y.us.length y.vc, .int .i64 y.crew, .slice y.SA y.sps.length y.sc, .map (some bl), .map (some bs), .map (some bk)], mapK (encN (n := 21)) bl (livP y), mapK (fun n : Int => Value.int .i64 n) bs (safP y), mapK enc2 bk (kepP y)] w')) := by
 have hmx : maxLen = 9223372036854775807 := rfl
 have hdy := hok.days; have husn := hyb.usn
 have hD : ((y.days.toNat : Nat) : Int) = y.days := by omega
 have hpel : y.pe.length ≤ 1000 ∧ ∀ k, k < y.pe.length → 0 ≤ y.pe.getD k 0 ∧ y.pe.getD k 0 ≤ 1000 := ⟨by have h1 := hok.yr.2.1.1; have h2 := hok.V.size; omega, hok.yr.2.1.2⟩
 refine enter Try.func63 rfl Try.ntmps63 rfl (fun a H => ?_)
 skip
 refine sS H fun K1 k1=>sr 1 rfl <| sE ?_;clear H a;intro a H
 refine k1 _ ?_;clear k1 K1
 obtain ⟨h0, hh0, S⟩ := mapK.fix S (i := 2) rfl
 rcases hk0 : h0 out with _ | v0
 ·skip
  skip
  replace H := H.keep [0, 1] rfl
  refine sS H fun K2 k2=>sr 2 rfl <| sf fo_120_2 rfl <| sl S 0 one_117 rfl rfl rfl <| sr 1 rfl <| sd (does_lookupOkK S (i := 2) rfl mt_117 (keyOk_int rfl) zv_4 rfl (k := out) rfl (fun h e => by subst e; rw [hk0]; exact ⟨rfl, rfl⟩)) <| sr 5 rfl <| sE ?_;clear H a;intro a H
  refine k2 _ ?_;clear k2 K2
  refine wp_seq_k fun K3 k3 => ?_
  replace H := H.keep [0, 1, 5, 6] rfl
  refine sS H fun K4 k4=>sr 2 rfl <| sE ?_;clear H a;intro a H
  refine k4 _ ?_;clear k4 K4
  refine cond_ H rfl (fun hc1 => ?_) (fun hc1 => ?_)
  ·skip
   skip
   refine sS H fun K5 k5=>sr 1 rfl <| sE ?_;clear H a;intro a H
   refine k5 _ ?_;clear k5 K5
   refine wp_seq_k fun K6 k6 => ?_
   replace H := H.keep [0, 1, 7] rfl
   refine sS H fun K7 k7=>sr 2 rfl <| sf fo_120_0 rfl <| sf fo_30_2 rfl <| sl S 0 one_23 rfl rfl rfl <| sL sl_23 rfl <| sr 1 rfl <| sE ?_;clear H a;intro a H
   refine k7 _ ?_;clear k7 K7
   refine wp_block ?_
   refine loop_st (X := Nat) (R0 := _) [0, 1, 27, 28] H rfl (fun k => [(7, .int .i64 (sumI y.pe k)), (29, .int .i64 (k : Int))]) (fun k => []) (fun g k => k ≤ y.pe.length ∧ g + k = y.pe.length) (y.pe.length) 0 ?_ (S.sel [0, 1, 2, 3] rfl rfl) (H.keep [7, 29, 0, 1, 27, 28] rfl) ?_
   · exact ⟨by omega, by omega⟩
   clear H S a
   intro g1 x1 a w1 hp S H K8 k8
   obtain ⟨k, rfl⟩ : ∃ y, y = x1 := ⟨_, rfl⟩
   refine sS H fun K9 k9=>sr 1 rfl <| sE ?_;clear H a;intro a H
   refine k9 _ ?_;clear k9 K9
   refine wp_seq_k fun K10 k10 => ?_
   refine condL H rfl (fun hc2 => ?_) (fun hc2 => ?_)
   ·skip
    refine wp_skip ?_
    refine k10 _ _ ?_
    refine wp_seq_k fun K11 k11 => ?_
    refine wp_block ?_
    refine sS H fun K12 k12=>si sl_23 sz_3 rfl rfl (hy.pe.adr (by omega)) (by omega) <| slm one_3 rfl (hy.pe.rd S (by omega) (by omega)) <| sr 1 rfl <| sE ?_;clear H a;intro a H
    refine k12 _ ?_;clear k12 K12
    have hsb := sumI_bd hpel.2 k (by omega); have hsk := hpel.2 k (by omega)
    refine sO H <| sr 2 rfl <| sd (does_add rfl rfl (by unfold i64ok; omega)) <| sr 1 rfl <| sE ?_;clear H a;intro a H
    refine k11 _ _ ?_
    replace H := H.keep [0, 1, 7, 27, 28, 29] rfl
    refine sO H <| sd (does_add rfl rfl (by unfold i64ok; omega)) <| sr 1 rfl <| sE ?_;clear H a;intro a H
    exact k8 (g1 - 1) (k + 1) a _ (by omega) (⟨by omega, by omega⟩) (S.sel [0, 1, 2, 3] rfl rfl) (H.keep [7, 29, 0, 1, 27, 28] rfl)
   refine wp_exit ?_
   refine k6 _ _ ?_
   replace H := H.keep [0, 1, 7] rfl
   replace S := S.drew
   refine seq_wq [(0, true), (1, true), (2, true), (3, true), (4, true), (5, true), (6, true), (7, true), (8, true), (9, true), (10, true), (11, true), (12, true), (13, true), (14, true), (15, true), (16, false), (17, true), (18, true), (19, true), (20, true), (21, true)] (by kernel_rfl) (by kernel_rfl) (S.sel [0, 1, 2, 3] rfl rfl) fun K15 k15 => ?_
   refine qF H <| qr 2 rfl <| qd rfl (fun _ S => (does_field fo_120_0 rfl)) <| qd rfl (fun _ S => (does_field fo_30_1 rfl)) <| qd rfl (fun _ S => (does_loadBox agg_25 sz_25 rfl S (i := 0) rfl rfl)) <| qr 3 rfl <| qd rfl (fun _ S => (does_field fo_120_0 rfl)) <| qd rfl (fun _ S => (does_field fo_30_2 rfl)) <| qd rfl (fun _ S => does_load one_23 rfl (boxM.rd S (i := 0) rfl rfl)) <| qr 2 rfl <| qd rfl (fun _ S => (does_field fo_120_0 rfl)) <| qd rfl (fun _ S => (does_field fo_30_3 rfl)) <| qd rfl (fun _ S => does_load one_3 rfl (boxM.rd S (i := 0) rfl rfl)) <| qK ?_;clear H a;intro a H
   refine wq_eff rfl ?_
   have hcl9 := ret_imp (ways_Left y.pl y.ps y.PA y.pc y.xs y.XA y.xc out y.pe y.BA y.bc y.limit _ (hy.ps.now S) hyb.psn (hy.xs.now S) hyb.xsn (hy.pe.now S) hyb.pen) (fun _ _ h => left_any (hok.leave ho) h)
   refine list_call H rfl rfl Try.func86 rfl rfl hcl9 ?_;clear H a hcl9
   rintro _ _ a ⟨n9, rfl, hlb, S2⟩ H
   replace S := S.call S2;clear S2
   refine wpList_nil (And.intro (S.sel [0, 1, 2, 3] rfl rfl) ?_)
   refine qF H <| qr 5 rfl <| qK ?_;clear H a;intro a H
   refine wq_nil ?_
   refine k15 _ _ ?_
   clear k15 K15
   replace H := H.keep [0, 1, 7, 10] rfl
   refine sS H fun K16 k16=>sr 4 rfl <| sE ?_;clear H a;intro a H
   refine k16 _ ?_;clear k16 K16
   replace H := H.keep [0, 1, 5] rfl
   refine one_list ?_
   refine ls 6 H <| sr 2 rfl <| sf fo_120_2 rfl <| sl S 0 one_117 rfl rfl rfl <| sr 2 rfl <| sE ?_;clear H a;intro a H
   refine list_mapUpdateK (k := out) (safP y) H S (i := 2) rfl mt_117 (keyOk_int rfl) rfl rfl rfl (fun h e => by subst e; exact safP_put (congrArg Value.bool (by rw [hlb, show k = y.pe.length by omega])) h hh0) ?_;clear H a S;intro _ a S H
   refine k3 _ _ ?_
   refine sS H fun K18 k18=>sr 2 rfl <| sE ?_;clear H a;intro a H
   refine k18 _ ?_;clear k18 K18
   refine wp_ret ?_
   refine ret1 (fn := Try.f63) rfl H rfl ?_
   exact ⟨congrArg Value.bool (by rw [hlb, show k = y.pe.length by omega]), (S.sel [0, 1, 2, 3] rfl rfl)⟩
  skip
  cases hc1
 obtain rfl := hh0 _ _ ho hk0
 replace H := H.keep [0, 1] rfl
 refine sS H fun K19 k19=>sr 2 rfl <| sf fo_120_2 rfl <| sl S 0 one_117 rfl rfl rfl <| sr 1 rfl <| sd (does_lookupOkK S (i := 2) rfl mt_117 (keyOk_int rfl) zv_4 rfl (k := out) rfl (fun h e => by subst e; rw [hk0]; exact ⟨rfl, rfl⟩)) <| sr 5 rfl <| sE ?_;clear H a;intro a H
 refine k19 _ ?_;clear k19 K19
 refine wp_seq_k fun K20 k20 => ?_
 replace H := H.keep [0, 1, 5, 6] rfl
 refine sS H fun K21 k21=>sr 2 rfl <| sE ?_;clear H a;intro a H
 refine k21 _ ?_;clear k21 K21
 refine cond_ H rfl (fun hc3 => ?_) (fun hc3 => ?_)
 ·skip
  skip
  cases hc3
 skip
 refine wp_skip ?_
 refine k20 _ _ ?_
 refine sS H fun K22 k22=>sr 2 rfl <| sE ?_;clear H a;intro a H
 refine k22 _ ?_;clear k22 K22
 refine wp_ret ?_
 refine ret1 (fn := Try.f63) rfl H rfl ?_
 replace S := mapK.weak S (i := 2) rfl (Φ' := safP y) (fun g e => by subst e; exact hh0)
 exact ⟨rfl, (S.sel [0, 1, 2, 3] rfl rfl)⟩

theorem cal_keeps (y : Yr) (cb bl bs bk : Nat) (d out : Int) (w : World) (F : Nat → Prop) (S : St w F [boxM cb 120 [.int .i64 y.days, .int .i64 y.pl, .slice y.PA y.ps.length y.pc, .slice y.XA y.xs.length y.xc, .slice y.BA y.pe.length y.bc, .int .i64 y.limit, .bool y.help, .slice y.QA y.prs.length y.qc, .slice y.VA y.us.length y.vc, .int .i64 y.crew, .slice y.SA y.sps.length y.sc, .map (some bl), .map (some bs), .map (some bk)], mapK (encN (n := 21)) bl (livP y), mapK (fun n : Int => Value.int .i64 n) bs (safP y), mapK enc2 bk (kepP y)] w) (hy : YIn w F y) (hyb : YBd y) (hok : YOk y) (ho : 0 ≤ out ∧ out ≤ 4095) :
    Calls Try.prog 62 [.pointer (some ⟨cb, 0, none⟩), .int .i64 d, .int .i64 out].toArray w (Ret (fun v w' => v = .bool (keepB y d out) ∧ St w F [boxM cb 120 [.int .i64 y.days, .int .i64 y.pl, .slice y.PA y.ps.length y.pc, .slice y.XA y.xs.length y.xc, .slice y.BA y.pe.length y.bc, .int .i64 y.limit, .bool y.help, .slice y.QA y.prs.length y.qc, .slice y.VA y.us.length y.vc, .int .i64 y.crew, .slice y.SA y.sps.length y.sc, .map (some bl), .map (some bs), .map (some bk)], mapK (encN (n := 21)) bl (livP y), mapK (fun n : Int => Value.int .i64 n) bs (safP y), mapK enc2 bk (kepP y)] w')) := by
 have hprn := hyb.prn
 refine enter Try.func62 rfl Try.ntmps62 rfl (fun a H => ?_)
 skip
 refine sS H fun K1 k1=>sr 1 rfl <| sE ?_;clear H a;intro a H
 refine k1 _ ?_;clear k1 K1
 obtain ⟨h0, hh0, S⟩ := mapK.fix S (i := 3) rfl
 rcases hk0 : h0 (d, out) with _ | v0
 ·skip
  skip
  replace H := H.keep [0, 1, 2] rfl
  refine sS H fun K2 k2=>sr 2 rfl <| sf fo_120_3 rfl <| sl S 0 one_118 rfl rfl rfl <| sr 2 rfl <| sd (does_build bt_146 rfl rfl) <| sd (does_lookupOkK S (i := 3) rfl mt_118 (keyOk2 Try.underlying146 Try.underlying3 one_3 sz_3) zv_4 rfl (k := (d, out)) rfl (fun h e => by subst e; rw [hk0]; exact ⟨rfl, rfl⟩)) <| sr 5 rfl <| sE ?_;clear H a;intro a H
  refine k2 _ ?_;clear k2 K2
  refine wp_seq_k fun K3 k3 => ?_
  replace H := H.keep [0, 1, 2, 7, 8] rfl
  refine sS H fun K4 k4=>sr 1 rfl <| sE ?_;clear H a;intro a H
  refine k4 _ ?_;clear k4 K4
  refine cond_ H rfl (fun hc1 => ?_) (fun hc1 => ?_)
  ·skip
   skip
   cases hc1
  skip
  refine wp_skip ?_
  refine k3 _ _ ?_
  refine sS H fun K5 k5=>sr 1 rfl <| sE ?_;clear H a;intro a H
  refine k5 _ ?_;clear k5 K5
  refine wp_seq_k fun K6 k6 => ?_
  refine sS H fun K7 k7=>sr 2 rfl <| sf fo_120_0 rfl <| sf fo_30_5 rfl <| sl S 0 one_26 rfl rfl rfl <| sL sl_26 rfl <| sr 1 rfl <| sE ?_;clear H a;intro a H
  refine k7 _ ?_;clear k7 K7
  refine wp_block ?_
  refine loop_st (X := Nat × Bool) (R0 := _) [0, 1, 2, 31, 32] H rfl (fun ⟨k, b⟩ => [(7, .bool b), (33, .int .i64 (k : Int))]) (fun ⟨k, b⟩ => []) (fun g ⟨k, b⟩ => k ≤ y.prs.length ∧ g + k = y.prs.length ∧ b = allN (prmB y d out) k) (y.prs.length) (0, true) ?_ (S.sel [0, 1, 2, 3] rfl rfl) (H.keep [7, 33, 0, 1, 2, 31, 32] rfl) ?_
  · exact ⟨by omega, by omega, rfl⟩
  clear H S a
  intro g1 x1 a w1 hp S H K8 k8
  obtain ⟨k, b⟩ := x1
  dsimp only at hp S H
  refine sS H fun K9 k9=>sr 1 rfl <| sE ?_;clear H a;intro a H
  refine k9 _ ?_;clear k9 K9
  refine wp_seq_k fun K10 k10 => ?_
  refine condL H rfl (fun hc2 => ?_) (fun hc2 => ?_)
  ·skip
   refine wp_skip ?_
   refine k10 _ _ ?_
   refine wp_seq_k fun K11 k11 => ?_
   refine wp_block ?_
   refine seq_list fun K12 k12 => ?_
   refine ls 2 H <| si sl_26 sz_95 rfl rfl (hy.prs.adr (by omega)) (by omega) <| sd ((does_loadIn agg_95 sz_95 rfl S hy.prs (by omega) (by omega))) <| sE ?_;clear H a;intro a H
   refine list_alloc H rfl S ze_95 ?_;clear H a S;intro b10 _ a hb10 hbw10 S H
   refine list_store H S (i := 0) rfl rfl rfl rfl sz_95 rfl rfl ?_
   clear H a S;intro _ a S H
   refine k12 _ _ ?_;clear k12 K12
   refine wp_seq_k fun K13 k13 => ?_
   replace H := H.keep [0, 1, 2, 7, 10, 31, 32, 33] rfl
   refine sS H fun K14 k14=>sr 1 rfl <| sf fo_95_2 rfl <| sl S 0 one_3 rfl rfl rfl <| sf fo_95_3 rfl <| sl S 0 one_3 rfl rfl rfl <| sc rfl Try.func60 rfl rfl (tm_within _ _ _ _) <| sr 1 rfl <| sE ?_;clear H a;intro a H
   refine k14 _ ?_;clear k14 K14
   refine cond_ H rfl (fun hc3 => ?_) (fun hc3 => ?_)
   ·skip
    try simp only [o1,o2,o3,o4,o5,o6,o7,o8,o9,oa] at hc3
    refine wp_exit ?_
    refine k11 _ _ ?_
    refine sO H <| sd (does_add rfl rfl (by unfold i64ok; omega)) <| sr 1 rfl <| sE ?_;clear H a;intro a H
    exact k8 (g1 - 1) (k + 1, _) a _ (by omega) (⟨by omega, by omega, keep_skip hp.2.2 (by omega)⟩) (S.sel [1, 2, 3, 4] rfl rfl) (H.keep [7, 33, 0, 1, 2, 31, 32] rfl)
   try simp only [o1,o2,o3,o4,o5,o6,o7,o8,o9,oa] at hc3
   refine wp_skip ?_
   refine k13 _ _ ?_
   rcases hhp : y.help with _ | _
   ·skip
    skip
    replace H := H.keep [0, 1, 2, 7, 10, 31, 32, 33] rfl
    replace S := S.drew
    refine seq_wq [(0, true), (1, true), (2, true), (3, true), (4, true), (5, true), (6, true), (7, true), (8, true), (9, true), (10, true), (11, true), (12, true), (13, true), (14, true), (15, true), (16, true), (17, true), (18, true), (19, false), (20, true), (21, true), (22, true), (23, true), (24, true), (25, true), (26, true)] (by kernel_rfl) (by kernel_rfl) (S.sel [0, 1, 2, 3, 4] rfl rfl) fun K16 k16 => ?_
    refine qF H <| qr 2 rfl <| qd rfl (fun _ S => (does_field fo_120_0 rfl)) <| qd rfl (fun _ S => (does_field fo_30_1 rfl)) <| qd rfl (fun _ S => (does_loadBox agg_25 sz_25 rfl S (i := 1) rfl rfl)) <| qr 3 rfl <| qd rfl (fun _ S => (does_field fo_120_0 rfl)) <| qd rfl (fun _ S => (does_field fo_30_4 rfl)) <| qd rfl (fun _ S => (does_load one_4 rfl (boxM.rd S (i := 1) rfl rfl)).to (v' := .bool false) (congrArg Value.bool hhp)) <| qr 1 rfl <| qK ?_;clear H a;intro a H
    refine wq_no H rfl rfl rfl rfl rfl ?_;clear H a;intro a H
    refine wq_no H rfl rfl rfl rfl rfl ?_;clear H a;intro a H
    refine qF H <| qd rfl (fun _ S => (does_pick rfl rfl rfl)) <| qd rfl (fun _ S => (does_field fo_95_0 rfl)) <| qd rfl (fun _ S => does_load one_3 rfl (boxM.rd S (i := 0) rfl rfl)) <| qd rfl (fun _ S => (does_field fo_95_1 rfl)) <| qd rfl (fun _ S => does_load one_3 rfl (boxM.rd S (i := 0) rfl rfl)) <| qK ?_;clear H a;intro a H
    refine wq_eff rfl ?_
    have hcl9 := ret_imp (ways_Way y.pl y.ps y.PA y.pc y.xs y.XA y.xc out false (y.prs.getD k Prm.zero).fr (y.prs.getD k Prm.zero).to _ (hy.ps.now S) hyb.psn (hy.xs.now S) hyb.xsn) (fun _ _ h => way_any (ask_ok hok ho (show k < y.prs.length by omega)) h)
    refine list_call H rfl rfl Try.func85 rfl rfl hcl9 ?_;clear H a hcl9
    rintro _ _ a ⟨t9, e9, A9, n9, c9, rfl, hwb, S2⟩ H
    replace S := S.call S2;clear S2
    refine wpList_nil (And.intro (S.sel [0, 1, 2, 3, 4] rfl rfl) ?_)
    refine qF H <| qr 7 rfl <| qK ?_;clear H a;intro a H
    refine wq_nil ?_
    refine k16 _ _ ?_
    clear k16 K16
    replace H := H.keep [0, 1, 2, 7, 13, 31, 32, 33] rfl
    refine sS H fun K17 k17=>sr 2 rfl <| sE ?_;clear H a;intro a H
    refine k17 _ ?_;clear k17 K17
    refine condN H rfl (fun hc4 => ?_) (fun hc4 => ?_)
    ·skip
     refine sO H <| sr 1 rfl <| sE ?_;clear H a;intro a H
     refine k11 _ _ ?_
     refine sO H <| sd (does_add rfl rfl (by unfold i64ok; omega)) <| sr 1 rfl <| sE ?_;clear H a;intro a H
     exact k8 (g1 - 1) (k + 1, _) a _ (by omega) (⟨by omega, by omega, keep_bad hp.2.2 (by omega) (by rw [hhp]; exact hwb) (by omega)⟩) (S.sel [1, 2, 3, 4] rfl rfl) (H.keep [7, 33, 0, 1, 2, 31, 32] rfl)
    refine wp_skip ?_
    refine k11 _ _ ?_
    refine sO H <| sd (does_add rfl rfl (by unfold i64ok; omega)) <| sr 1 rfl <| sE ?_;clear H a;intro a H
    exact k8 (g1 - 1) (k + 1, _) a _ (by omega) (⟨by omega, by omega, keep_good hp.2.2 (by omega) (by rw [hhp]; exact hwb) (by omega)⟩) (S.sel [1, 2, 3, 4] rfl rfl) (H.keep [7, 33, 0, 1, 2, 31, 32] rfl)
   skip
   replace H := H.keep [0, 1, 2, 7, 10, 31, 32, 33] rfl
   replace S := S.drew
   refine seq_wq [(0, true), (1, true), (2, true), (3, true), (4, true), (5, true), (6, true), (7, true), (8, true), (9, true), (10, true), (11, true), (12, true), (13, true), (14, true), (15, true), (16, true), (17, true), (18, true), (19, false), (20, true), (21, true), (22, true), (23, true), (24, true), (25, true), (26, true)] (by kernel_rfl) (by kernel_rfl) (S.sel [0, 1, 2, 3, 4] rfl rfl) fun K21 k21 => ?_
   refine qF H <| qr 2 rfl <| qd rfl (fun _ S => (does_field fo_120_0 rfl)) <| qd rfl (fun _ S => (does_field fo_30_1 rfl)) <| qd rfl (fun _ S => (does_loadBox agg_25 sz_25 rfl S (i := 1) rfl rfl)) <| qr 3 rfl <| qd rfl (fun _ S => (does_field fo_120_0 rfl)) <| qd rfl (fun _ S => (does_field fo_30_4 rfl)) <| qd rfl (fun _ S => (does_load one_4 rfl (boxM.rd S (i := 1) rfl rfl)).to (v' := .bool true) (congrArg Value.bool hhp)) <| qr 1 rfl <| qK ?_;clear H a;intro a H
   refine wq_yes H rfl rfl rfl rfl (fun _ S => (does_field fo_95_4 rfl)) ?_;clear H a;intro a H
   refine wq_yes H rfl rfl rfl rfl (fun _ S => does_load one_4 rfl (boxM.rd S (i := 0) rfl rfl)) ?_;clear H a;intro a H
   refine qF H <| qd rfl (fun _ S => (does_and rfl rfl rfl)) <| qd rfl (fun _ S => (does_field fo_95_0 rfl)) <| qd rfl (fun _ S => does_load one_3 rfl (boxM.rd S (i := 0) rfl rfl)) <| qd rfl (fun _ S => (does_field fo_95_1 rfl)) <| qd rfl (fun _ S => does_load one_3 rfl (boxM.rd S (i := 0) rfl rfl)) <| qK ?_;clear H a;intro a H
   refine wq_eff rfl ?_
   have hcl9 := ret_imp (ways_Way y.pl y.ps y.PA y.pc y.xs y.XA y.xc out (y.prs.getD k Prm.zero).helped (y.prs.getD k Prm.zero).fr (y.prs.getD k Prm.zero).to _ (hy.ps.now S) hyb.psn (hy.xs.now S) hyb.xsn) (fun _ _ h => way_any (ask_ok hok ho (show k < y.prs.length by omega)) h)
   refine list_call H rfl rfl Try.func85 rfl rfl hcl9 ?_;clear H a hcl9
   rintro _ _ a ⟨t9, e9, A9, n9, c9, rfl, hwb, S2⟩ H
   replace S := S.call S2;clear S2
   refine wpList_nil (And.intro (S.sel [0, 1, 2, 3, 4] rfl rfl) ?_)
   refine qF H <| qr 7 rfl <| qK ?_;clear H a;intro a H
   refine wq_nil ?_
   refine k21 _ _ ?_
   clear k21 K21
   replace H := H.keep [0, 1, 2, 7, 13, 31, 32, 33] rfl
   refine sS H fun K22 k22=>sr 2 rfl <| sE ?_;clear H a;intro a H
   refine k22 _ ?_;clear k22 K22
   refine condN H rfl (fun hc5 => ?_) (fun hc5 => ?_)
   ·skip
    refine sO H <| sr 1 rfl <| sE ?_;clear H a;intro a H
    refine k11 _ _ ?_
    refine sO H <| sd (does_add rfl rfl (by unfold i64ok; omega)) <| sr 1 rfl <| sE ?_;clear H a;intro a H
    exact k8 (g1 - 1) (k + 1, _) a _ (by omega) (⟨by omega, by omega, keep_bad hp.2.2 (by omega) (by rw [hhp]; exact hwb) (by omega)⟩) (S.sel [1, 2, 3, 4] rfl rfl) (H.keep [7, 33, 0, 1, 2, 31, 32] rfl)
   refine wp_skip ?_
   refine k11 _ _ ?_
   refine sO H <| sd (does_add rfl rfl (by unfold i64ok; omega)) <| sr 1 rfl <| sE ?_;clear H a;intro a H
   exact k8 (g1 - 1) (k + 1, _) a _ (by omega) (⟨by omega, by omega, keep_good hp.2.2 (by omega) (by rw [hhp]; exact hwb) (by omega)⟩) (S.sel [1, 2, 3, 4] rfl rfl) (H.keep [7, 33, 0, 1, 2, 31, 32] rfl)
  refine wp_exit ?_
  refine k6 _ _ ?_
  have hb9 : b = keepB y d out := by rw [hp.2.2, show k = y.prs.length by omega]; rfl
  subst hb9
  replace H := H.keep [0, 1, 2, 7] rfl
  refine seq_list fun K26 k26 => ?_
  refine ls 8 H <| sr 2 rfl <| sf fo_120_3 rfl <| sl S 0 one_118 rfl rfl rfl <| sr 2 rfl <| sd (does_build bt_146 rfl rfl) <| sr 1 rfl <| sE ?_;clear H a;intro a H
  refine list_mapUpdateK (k := (d, out)) (kepP y) H S (i := 3) rfl mt_118 (keyOk2 Try.underlying146 Try.underlying3 one_3 sz_3) rfl rfl rfl (fun h e => by subst e; exact kepP_put rfl h hh0) ?_;clear H a S;intro _ a S H
  refine k26 _ _ ?_;clear k26 K26
  replace H := H.keep [7] rfl
  refine sS H fun K27 k27=>sr 2 rfl <| sE ?_;clear H a;intro a H
  refine k27 _ ?_;clear k27 K27
  refine wp_ret ?_
  refine ret1 (fn := Try.f62) rfl H rfl ?_
  exact ⟨rfl, (S.sel [0, 1, 2, 3] rfl rfl)⟩
 obtain rfl := hh0 _ _ _ ho hk0
 replace H := H.keep [0, 1, 2] rfl
 refine sS H fun K28 k28=>sr 2 rfl <| sf fo_120_3 rfl <| sl S 0 one_118 rfl rfl rfl <| sr 2 rfl <| sd (does_build bt_146 rfl rfl) <| sd (does_lookupOkK S (i := 3) rfl mt_118 (keyOk2 Try.underlying146 Try.underlying3 one_3 sz_3) zv_4 rfl (k := (d, out)) rfl (fun h e => by subst e; rw [hk0]; exact ⟨rfl, rfl⟩)) <| sr 5 rfl <| sE ?_;clear H a;intro a H
 refine k28 _ ?_;clear k28 K28
 refine wp_seq_k fun K29 k29 => ?_
 replace H := H.keep [0, 1, 2, 7, 8] rfl
 refine sS H fun K30 k30=>sr 1 rfl <| sE ?_;clear H a;intro a H
 refine k30 _ ?_;clear k30 K30
 refine cond_ H rfl (fun hc6 => ?_) (fun hc6 => ?_)
 ·skip
  skip
  refine sS H fun K31 k31=>sr 2 rfl <| sE ?_;clear H a;intro a H
  refine k31 _ ?_;clear k31 K31
  refine wp_ret ?_
  refine ret1 (fn := Try.f62) rfl H rfl ?_
  replace S := mapK.weak S (i := 3) rfl (Φ' := kepP y) (fun g e => by subst e; exact hh0)
  exact ⟨rfl, (S.sel [0, 1, 2, 3] rfl rfl)⟩
 skip
 cases hc6

end Go.Proofs.Ytopmadlgolnmfaa
