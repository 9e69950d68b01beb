/- TmB. Printed by gen.py. -/
import Derived.Test.YtopmadlgolnmfaaTmA
import Derived.Test.YtopmadlgolnmfaaE2
namespace Go.Proofs.Ytopmadlgolnmfaa
open Go.RowKit
set_option linter.unusedVariables false
set_option linter.unusedSimpArgs false
set_option maxRecDepth 100000
set_option maxHeartbeats 4000000


theorem chk5 (A B C : Prop) [Decidable A] [Decidable B] [Decidable C] (k : Nat) : ¬ A ∨ (A ∧ ¬ B) ∨ (A ∧ B ∧ ¬ C) ∨ (A ∧ B ∧ C ∧ k = 0) ∨ (A ∧ B ∧ C ∧ 0 < k) := by
  by_cases hA : A <;> by_cases hB : B <;> by_cases hC : C <;> by_cases hk : k = 0 <;> simp [hA, hB, hC, hk] <;> omega
section
variable {P : Program} {w : World} {L : List (Nat × Value)} {ty : TypeId} {pos : String} {af : Array Edge} {dd : Option Nat} {g : Option (Nat × Bool)}
theorem does_notw_t {x : Operand} {xt : TypeId} {lo n hi : Int} (hx : ev L x = some (.bool (decide (lo ≤ n) && decide (n ≤ hi)))) (h : ¬ (lo ≤ n ∧ n ≤ hi)) : Does P L ⟨dd, .unOp .not xt x, ty, pos, af, g⟩ w (.bool true) := by
  have h1 := does_not (P := P) (d := dd) (w := w) (ty := ty) (pos := pos) (af := af) (g := g) (xt := xt) hx
  have e : (!(decide (lo ≤ n) && decide (n ≤ hi))) = true := by simp only [Bool.not_eq_true', Bool.and_eq_false_iff, decide_eq_false_iff_not]; omega
  rw [e] at h1
  exact h1
theorem does_notw_f {x : Operand} {xt : TypeId} {lo n hi : Int} (hx : ev L x = some (.bool (decide (lo ≤ n) && decide (n ≤ hi)))) (h : lo ≤ n ∧ n ≤ hi) : Does P L ⟨dd, .unOp .not xt x, ty, pos, af, g⟩ w (.bool false) := by
  have h1 := does_not (P := P) (d := dd) (w := w) (ty := ty) (pos := pos) (af := af) (g := g) (xt := xt) hx
  rw [decide_eq_true h.1, decide_eq_true h.2] at h1
  exact h1
end
section
variable {y : Yr} {l : List Tsk} {k : Nat}
def tskI (y : Yr) (t : Tsk) : Prop := (0 ≤ t.day ∧ t.day ≤ y.days - 1) ∧ (0 ≤ t.unit ∧ t.unit ≤ (y.us.length : Int) - 1) ∧ (1 ≤ t.kind ∧ t.kind ≤ 2)
theorem tsk_bad1 (h : ¬ ((0 ≤ (l.getD k Tsk.zero).day ∧ (l.getD k Tsk.zero).day ≤ y.days - 1) ∧ (0 ≤ (l.getD k Tsk.zero).unit ∧ (l.getD k Tsk.zero).unit ≤ (y.us.length : Int) - 1) ∧ (1 ≤ (l.getD k Tsk.zero).kind ∧ (l.getD k Tsk.zero).kind ≤ 2))) : tskB y l k = false := by
  unfold tskB; rw [decide_eq_false h, Bool.false_and]
theorem tsk_bad2 (hB : (0 ≤ (l.getD k Tsk.zero).day ∧ (l.getD k Tsk.zero).day ≤ y.days - 1) ∧ (0 ≤ (l.getD k Tsk.zero).unit ∧ (l.getD k Tsk.zero).unit ≤ (y.us.length : Int) - 1) ∧ (1 ≤ (l.getD k Tsk.zero).kind ∧ (l.getD k Tsk.zero).kind ≤ 2) ∧ 0 < k) (h : befB (l.getD ((k : Int) - 1).toNat Tsk.zero) (l.getD k Tsk.zero) = false) : tskB y l k = false := by
  rw [show ((k : Int) - 1).toNat = k - 1 by omega] at h
  unfold tskB; rw [h, decide_eq_false (show ¬ k = 0 by omega), Bool.or_self, Bool.and_false]
theorem tsk_first (hB : (0 ≤ (l.getD k Tsk.zero).day ∧ (l.getD k Tsk.zero).day ≤ y.days - 1) ∧ (0 ≤ (l.getD k Tsk.zero).unit ∧ (l.getD k Tsk.zero).unit ≤ (y.us.length : Int) - 1) ∧ (1 ≤ (l.getD k Tsk.zero).kind ∧ (l.getD k Tsk.zero).kind ≤ 2) ∧ k = 0) : tskB y l k = true := by
  unfold tskB; rw [decide_eq_true ⟨hB.1, hB.2.1, hB.2.2.1⟩, decide_eq_true hB.2.2.2]; rfl
theorem tsk_later (hB : (0 ≤ (l.getD k Tsk.zero).day ∧ (l.getD k Tsk.zero).day ≤ y.days - 1) ∧ (0 ≤ (l.getD k Tsk.zero).unit ∧ (l.getD k Tsk.zero).unit ≤ (y.us.length : Int) - 1) ∧ (1 ≤ (l.getD k Tsk.zero).kind ∧ (l.getD k Tsk.zero).kind ≤ 2) ∧ 0 < k) (h : befB (l.getD ((k : Int) - 1).toNat Tsk.zero) (l.getD k Tsk.zero) = true) : tskB y l k = true := by
  rw [show ((k : Int) - 1).toNat = k - 1 by omega] at h
  unfold tskB; rw [decide_eq_true ⟨hB.1, hB.2.1, hB.2.2.1⟩, h, Bool.or_true]; rfl
end


theorem tm_before (a b : Tsk) (w : World) :
    Calls Try.prog 61 [.agg [.int .i64 a.day, .int .i64 a.unit, .int .i64 a.kind].toArray, .agg [.int .i64 b.day, .int .i64 b.unit, .int .i64 b.kind].toArray].toArray w (Ret (fun v w' => v = .bool (befB a b) ∧ St w noF [] w')) := by
 refine enter Try.func61 rfl Try.ntmps61 rfl (fun a H => ?_)
 have S := St.start w
 refine seq_list fun K1 k1 => ?_
 refine list_box H rfl S rfl rfl ?_;clear H a S;intro b2 _ a hb2 hbw2 S H
 refine list_box H rfl S rfl rfl ?_;clear H a S;intro b3 _ a hb3 hbw3 S H
 refine ls 1 H <| sr 1 rfl <| sE ?_;clear H a;intro a H
 refine k1 _ _ ?_;clear k1 K1
 refine wp_seq_k fun K2 k2 => ?_
 refine sS H fun K3 k3=>sf fo_48_0 rfl <| sl S 1 one_3 rfl rfl rfl <| sf fo_48_0 rfl <| sl S 0 one_3 rfl rfl rfl <| sr 1 rfl <| sE ?_;clear H a;intro a H
 refine k3 _ ?_;clear k3 K3
 refine condN H rfl (fun hc1 => ?_) (fun hc1 => ?_)
 ·skip
  replace H := H.keep [2, 3] rfl
  refine sS H fun K4 k4=>sf fo_48_0 rfl <| sl S 1 one_3 rfl rfl rfl <| sf fo_48_0 rfl <| sl S 0 one_3 rfl rfl rfl <| sr 2 rfl <| sE ?_;clear H a;intro a H
  refine k4 _ ?_;clear k4 K4
  refine wp_ret ?_
  refine ret1 (fn := Try.f61) rfl H rfl ?_
  refine ⟨?_, (S.sel [] rfl rfl)⟩; unfold befB; rw [if_pos hc1]
 refine wp_skip ?_
 refine k2 _ _ ?_
 refine wp_seq_k fun K5 k5 => ?_
 replace H := H.keep [2, 3] rfl
 refine sS H fun K6 k6=>sf fo_48_1 rfl <| sl S 1 one_3 rfl rfl rfl <| sf fo_48_1 rfl <| sl S 0 one_3 rfl rfl rfl <| sr 1 rfl <| sE ?_;clear H a;intro a H
 refine k6 _ ?_;clear k6 K6
 refine condN H rfl (fun hc2 => ?_) (fun hc2 => ?_)
 ·skip
  replace H := H.keep [2, 3] rfl
  refine sS H fun K7 k7=>sf fo_48_1 rfl <| sl S 1 one_3 rfl rfl rfl <| sf fo_48_1 rfl <| sl S 0 one_3 rfl rfl rfl <| sr 2 rfl <| sE ?_;clear H a;intro a H
  refine k7 _ ?_;clear k7 K7
  refine wp_ret ?_
  refine ret1 (fn := Try.f61) rfl H rfl ?_
  refine ⟨?_, (S.sel [] rfl rfl)⟩; unfold befB; rw [if_neg (fun h => h (by omega)), if_pos hc2]
 refine wp_skip ?_
 refine k5 _ _ ?_
 replace H := H.keep [2, 3] rfl
 refine sS H fun K8 k8=>sf fo_48_2 rfl <| sl S 1 one_3 rfl rfl rfl <| sf fo_48_2 rfl <| sl S 0 one_3 rfl rfl rfl <| sr 2 rfl <| sE ?_;clear H a;intro a H
 refine k8 _ ?_;clear k8 K8
 refine wp_ret ?_
 refine ret1 (fn := Try.f61) rfl H rfl ?_
 refine ⟨?_, (S.sel [] rfl rfl)⟩; unfold befB; rw [if_neg (fun h => h (by omega)), if_neg (fun h => h (by omega))]

theorem tm_Check (y : Yr) (l : List Tsk) (LA : Option Addr) (lc : Nat) (w : World) (hy : YIn w noF y) (hyb : YBd y) (hl : InS w noF 3 LA l.length (tkcell l)) (hln : l.length ≤ 9223372036854775807) :
    Calls Try.prog 36 [.agg [.int .i64 y.days, .int .i64 y.pl, .slice y.PA y.ps.length y.pc, .slice y.XA y.xs.length y.xc, .slice y.BA y.pe.length y.bc, .int .i64 y.limit, .bool y.help, .slice y.QA y.prs.length y.qc, .slice y.VA y.us.length y.vc, .int .i64 y.crew, .slice y.SA y.sps.length y.sc].toArray, .slice LA l.length lc].toArray w (Ret (fun v w' => v = .int .i64 (taskE y l) ∧ St w noF [] w')) := by
 have hn3 := hyb.usn
 refine enter Try.func36 rfl Try.ntmps36 rfl (fun a H => ?_)
 have S := St.start w
 refine seq_list fun K1 k1 => ?_
 refine list_box H rfl S rfl rfl ?_;clear H a S;intro b2 _ a hb2 hbw2 S H
 refine ls 1 H <| sr 1 rfl <| sE ?_;clear H a;intro a H
 refine k1 _ _ ?_;clear k1 K1
 refine wp_seq_k fun K2 k2 => ?_
 refine seq_list fun K3 k3 => ?_
 refine ls 1 H <| sd ((does_loadBox agg_30 sz_30 rfl S (i := 0) rfl rfl)) <| sE ?_;clear H a;intro a H
 refine list_call H rfl rfl Try.func56 rfl rfl (tm_year y _ (hy.now S) hyb) ?_;clear H a
 rintro _ _ a ⟨rfl, S2⟩ H
 replace S := S.call S2;clear S2
 refine ls 1 H <| sr 1 rfl <| sE ?_;clear H a;intro a H
 refine k3 _ _ ?_;clear k3 K3
 refine sS H fun K4 k4=>sr 2 rfl <| sE ?_;clear H a;intro a H
 refine k4 _ ?_;clear k4 K4
 refine condN H rfl (fun hc1 => ?_) (fun hc1 => ?_)
 ·skip
  refine sS H fun K5 k5=>sr 2 rfl <| sE ?_;clear H a;intro a H
  refine k5 _ ?_;clear k5 K5
  refine wp_ret ?_
  refine ret1 (fn := Try.f36) rfl H rfl ?_
  exact ⟨congrArg _ (taskE_year hc1).symm, (S.sel [] rfl rfl)⟩
 have hye : yearE y = 0 := by omega
 have hyi := (year_ok hye).yr
 unfold yrI at hyi
 refine wp_skip ?_
 refine k2 _ _ ?_
 refine wp_seq_k fun K6 k6 => ?_
 replace H := H.keep [1, 2] rfl
 refine sS H fun K7 k7=>sr 1 rfl <| sL sl_31 rfl <| sr 1 rfl <| sE ?_;clear H a;intro a H
 refine k7 _ ?_;clear k7 K7
 refine condL H rfl (fun hc2 => ?_) (fun hc2 => ?_)
 ·skip
  refine sS H fun K8 k8=>sr 1 rfl <| sE ?_;clear H a;intro a H
  refine k8 _ ?_;clear k8 K8
  refine wp_ret ?_
  refine ret1 (fn := Try.f36) rfl H rfl ?_
  rw [taskE_many hye (by omega)]; exact ⟨rfl, (S.sel [] rfl rfl)⟩
 refine wp_skip ?_
 refine k6 _ _ ?_
 refine wp_seq_k fun K9 k9 => ?_
 refine sS H fun K10 k10=>sr 1 rfl <| sL sl_31 rfl <| sr 1 rfl <| sE ?_;clear H a;intro a H
 refine k10 _ ?_;clear k10 K10
 refine wp_block ?_
 refine loop_st (X := Nat) (R0 := _) [1, 2, 16, 17] H rfl (fun k => [(18, .int .i64 (k : Int))]) (fun k => []) (fun g k => k ≤ l.length ∧ g + k = l.length ∧ ∀ q, q < k → tskB y l q = true) (l.length) 0 ?_ (S.sel [0] rfl rfl) (H.keep [18, 1, 2, 16, 17] rfl) ?_
 · exact ⟨by omega, by omega, fun q hq => absurd hq (Nat.not_lt_zero q)⟩
 clear H S a
 intro g1 x1 a w1 hp S H K11 k11
 obtain ⟨k, rfl⟩ : ∃ y, y = x1 := ⟨_, rfl⟩
 refine sS H fun K12 k12=>sr 1 rfl <| sE ?_;clear H a;intro a H
 refine k12 _ ?_;clear k12 K12
 refine wp_seq_k fun K13 k13 => ?_
 refine condL H rfl (fun hc3 => ?_) (fun hc3 => ?_)
 ·skip
  refine wp_skip ?_
  refine k13 _ _ ?_
  refine wp_seq_k fun K14 k14 => ?_
  refine wp_block ?_
  refine seq_list fun K15 k15 => ?_
  refine ls 3 H <| sr 1 rfl <| si sl_31 sz_48 rfl rfl (hl.adr (by omega)) (by omega) <| sd ((does_loadIn agg_48 sz_48 rfl S hl (by omega) (by omega))) <| sE ?_;clear H a;intro a H
  refine list_alloc H rfl S ze_48 ?_;clear H a S;intro b7 _ a hb7 hbw7 S H
  refine ls 1 H <| sr 1 rfl <| sE ?_;clear H a;intro a H
  refine list_store H S (i := 0) rfl rfl rfl rfl sz_48 rfl rfl ?_
  clear H a S;intro _ a S H
  refine k15 _ _ ?_;clear k15 K15
  rcases chk5 (0 ≤ (l.getD k Tsk.zero).day ∧ (l.getD k Tsk.zero).day ≤ y.days - 1) (0 ≤ (l.getD k Tsk.zero).unit ∧ (l.getD k Tsk.zero).unit ≤ (y.us.length : Int) - 1) (1 ≤ (l.getD k Tsk.zero).kind ∧ (l.getD k Tsk.zero).kind ≤ 2) k with hB | hB | hB | hB | hB
  ·skip
   skip
   replace H := H.keep [1, 2, 6, 7, 16, 17, 18] rfl
   replace S := S.drew
   refine seq_wq [(0, true), (1, true), (2, true), (3, true), (4, true), (5, false), (6, true), (7, true), (8, true), (9, true), (10, true), (11, true), (12, true), (13, true), (14, true), (15, true), (16, true), (17, true), (18, true), (19, true), (20, true), (21, true), (22, true), (23, true), (24, true), (25, true), (26, true), (27, true), (28, true), (29, true), (30, true), (31, true), (32, true), (33, true), (34, true), (35, true), (36, true)] (by kernel_rfl) (by kernel_rfl) (S.sel [0, 1] rfl rfl) fun K16 k16 => ?_
   refine qF H <| qd rfl (fun _ S => (does_field fo_48_0 rfl)) <| qd rfl (fun _ S => does_load one_3 rfl (boxM.rd S (i := 0) rfl rfl)) <| qd rfl (fun _ S => (does_field fo_30_0 rfl)) <| qd rfl (fun _ S => does_load one_3 rfl (boxM.rd S (i := 1) rfl rfl)) <| qd rfl (fun _ S => does_sub rfl rfl (by unfold i64ok; omega)) <| qK ?_;clear H a;intro a H
   refine wq_eff rfl ?_
   refine list_call H rfl rfl Try.func60 rfl rfl (tm_within _ _ _ _) ?_;clear H a
   rintro _ _ a ⟨rfl, rfl⟩ H
   refine wpList_nil (And.intro (S.sel [0, 1] rfl rfl) ?_)
   refine qF H <| qd rfl (fun _ S => does_notw_t rfl (by omega)) <| qr 1 rfl <| qK ?_;clear H a;intro a H
   refine wq_no H rfl rfl rfl rfl rfl ?_;clear H a;intro a H
   refine wq_no H rfl rfl rfl rfl rfl ?_;clear H a;intro a H
   refine wq_no H rfl rfl rfl rfl rfl ?_;clear H a;intro a H
   refine wq_no H rfl rfl rfl rfl rfl ?_;clear H a;intro a H
   refine wq_no H rfl rfl rfl rfl rfl ?_;clear H a;intro a H
   refine wq_no H rfl rfl rfl rfl rfl ?_;clear H a;intro a H
   refine wq_no H rfl rfl rfl rfl rfl ?_;clear H a;intro a H
   refine wq_no H rfl rfl rfl rfl rfl ?_;clear H a;intro a H
   refine qF H <| qd rfl (fun _ S => (does_pick rfl rfl rfl)) <| qr 1 rfl <| qK ?_;clear H a;intro a H
   refine wq_no H rfl rfl rfl rfl rfl ?_;clear H a;intro a H
   refine wq_no H rfl rfl rfl rfl rfl ?_;clear H a;intro a H
   refine wq_no H rfl rfl rfl rfl rfl ?_;clear H a;intro a H
   refine wq_no H rfl rfl rfl rfl rfl ?_;clear H a;intro a H
   refine qF H <| qd rfl (fun _ S => (does_pick rfl rfl rfl)) <| qr 1 rfl <| qK ?_;clear H a;intro a H
   refine wq_no H rfl rfl rfl rfl rfl ?_;clear H a;intro a H
   refine wq_no H rfl rfl rfl rfl rfl ?_;clear H a;intro a H
   refine wq_no H rfl rfl rfl rfl rfl ?_;clear H a;intro a H
   refine wq_un H rfl rfl rfl rfl ?_;clear H a;intro a H
   refine wq_un H rfl rfl rfl rfl ?_;clear H a;intro a H
   refine wq_un H rfl rfl rfl rfl ?_;clear H a;intro a H
   refine wq_un H rfl rfl rfl rfl ?_;clear H a;intro a H
   refine wq_un H rfl rfl rfl rfl ?_;clear H a;intro a H
   refine wq_un H rfl rfl rfl rfl ?_;clear H a;intro a H
   refine wq_un H rfl rfl rfl rfl ?_;clear H a;intro a H
   refine wq_un H rfl rfl rfl rfl ?_;clear H a;intro a H
   refine wq_no H rfl rfl rfl rfl rfl ?_;clear H a;intro a H
   refine qF H <| qd rfl (fun _ S => (does_pick rfl rfl rfl)) <| qK ?_;clear H a;intro a H
   refine wq_nil ?_
   refine k16 _ _ ?_
   clear k16 K16
   refine cond_ H rfl (fun hc4 => ?_) (fun hc4 => ?_)
   ·skip
    skip
    replace H := H.keep [] rfl
    refine sS H fun K17 k17=>sr 1 rfl <| sE ?_;clear H a;intro a H
    refine k17 _ ?_;clear k17 K17
    refine wp_ret ?_
    refine ret1 (fn := Try.f36) rfl H rfl ?_
    rw [taskE_bad hye (by omega) (show k < l.length by omega) (tsk_bad1 (by omega))]; exact ⟨rfl, (S.sel [] rfl rfl)⟩
   skip
   cases hc4
  ·skip
   skip
   replace H := H.keep [1, 2, 6, 7, 16, 17, 18] rfl
   replace S := S.drew
   refine seq_wq [(0, true), (1, true), (2, true), (3, true), (4, true), (5, false), (6, true), (7, true), (8, true), (9, true), (10, true), (11, true), (12, true), (13, true), (14, false), (15, true), (16, true), (17, true), (18, true), (19, true), (20, true), (21, true), (22, true), (23, true), (24, true), (25, true), (26, true), (27, true), (28, true), (29, true), (30, true), (31, true), (32, true), (33, true), (34, true), (35, true), (36, true)] (by kernel_rfl) (by kernel_rfl) (S.sel [0, 1] rfl rfl) fun K18 k18 => ?_
   refine qF H <| qd rfl (fun _ S => (does_field fo_48_0 rfl)) <| qd rfl (fun _ S => does_load one_3 rfl (boxM.rd S (i := 0) rfl rfl)) <| qd rfl (fun _ S => (does_field fo_30_0 rfl)) <| qd rfl (fun _ S => does_load one_3 rfl (boxM.rd S (i := 1) rfl rfl)) <| qd rfl (fun _ S => does_sub rfl rfl (by unfold i64ok; omega)) <| qK ?_;clear H a;intro a H
   refine wq_eff rfl ?_
   refine list_call H rfl rfl Try.func60 rfl rfl (tm_within _ _ _ _) ?_;clear H a
   rintro _ _ a ⟨rfl, rfl⟩ H
   refine wpList_nil (And.intro (S.sel [0, 1] rfl rfl) ?_)
   refine qF H <| qd rfl (fun _ S => does_notw_f rfl (by omega)) <| qr 1 rfl <| qK ?_;clear H a;intro a H
   refine wq_yes H rfl rfl rfl rfl (fun _ S => (does_field fo_48_1 rfl)) ?_;clear H a;intro a H
   refine wq_yes H rfl rfl rfl rfl (fun _ S => does_load one_3 rfl (boxM.rd S (i := 0) rfl rfl)) ?_;clear H a;intro a H
   refine wq_yes H rfl rfl rfl rfl (fun _ S => (does_field fo_30_6 rfl)) ?_;clear H a;intro a H
   refine wq_yes H rfl rfl rfl rfl (fun _ S => does_load one_27 rfl (boxM.rd S (i := 1) rfl rfl)) ?_;clear H a;intro a H
   refine wq_yes H rfl rfl rfl rfl (fun _ S => does_len sl_27 rfl) ?_;clear H a;intro a H
   refine wq_yes H rfl rfl rfl rfl (fun _ S => does_sub rfl rfl (by unfold i64ok; omega)) ?_;clear H a;intro a H
   refine wq_eff rfl ?_
   refine list_yes H rfl rfl ?_
   refine list_call H rfl rfl Try.func60 rfl rfl (tm_within _ _ _ _) ?_;clear H a
   rintro _ _ a ⟨rfl, rfl⟩ H
   refine wpList_nil (And.intro (S.sel [0, 1] rfl rfl) ?_)
   refine wq_yes H rfl rfl rfl rfl (fun _ S => does_notw_t rfl (by omega)) ?_;clear H a;intro a H
   refine qF H <| qd rfl (fun _ S => (does_or rfl rfl rfl)) <| qr 1 rfl <| qK ?_;clear H a;intro a H
   refine wq_no H rfl rfl rfl rfl rfl ?_;clear H a;intro a H
   refine wq_no H rfl rfl rfl rfl rfl ?_;clear H a;intro a H
   refine wq_no H rfl rfl rfl rfl rfl ?_;clear H a;intro a H
   refine wq_no H rfl rfl rfl rfl rfl ?_;clear H a;intro a H
   refine qF H <| qd rfl (fun _ S => (does_pick rfl rfl rfl)) <| qr 1 rfl <| qK ?_;clear H a;intro a H
   refine wq_no H rfl rfl rfl rfl rfl ?_;clear H a;intro a H
   refine wq_no H rfl rfl rfl rfl rfl ?_;clear H a;intro a H
   refine wq_no H rfl rfl rfl rfl rfl ?_;clear H a;intro a H
   refine wq_un H rfl rfl rfl rfl ?_;clear H a;intro a H
   refine wq_un H rfl rfl rfl rfl ?_;clear H a;intro a H
   refine wq_un H rfl rfl rfl rfl ?_;clear H a;intro a H
   refine wq_un H rfl rfl rfl rfl ?_;clear H a;intro a H
   refine wq_un H rfl rfl rfl rfl ?_;clear H a;intro a H
   refine wq_un H rfl rfl rfl rfl ?_;clear H a;intro a H
   refine wq_un H rfl rfl rfl rfl ?_;clear H a;intro a H
   refine wq_un H rfl rfl rfl rfl ?_;clear H a;intro a H
   refine wq_no H rfl rfl rfl rfl rfl ?_;clear H a;intro a H
   refine qF H <| qd rfl (fun _ S => (does_pick rfl rfl rfl)) <| qK ?_;clear H a;intro a H
   refine wq_nil ?_
   refine k18 _ _ ?_
   clear k18 K18
   refine cond_ H rfl (fun hc5 => ?_) (fun hc5 => ?_)
   ·skip
    skip
    replace H := H.keep [] rfl
    refine sS H fun K19 k19=>sr 1 rfl <| sE ?_;clear H a;intro a H
    refine k19 _ ?_;clear k19 K19
    refine wp_ret ?_
    refine ret1 (fn := Try.f36) rfl H rfl ?_
    rw [taskE_bad hye (by omega) (show k < l.length by omega) (tsk_bad1 (by omega))]; exact ⟨rfl, (S.sel [] rfl rfl)⟩
   skip
   cases hc5
  ·skip
   skip
   replace H := H.keep [1, 2, 6, 7, 16, 17, 18] rfl
   replace S := S.drew
   refine seq_wq [(0, true), (1, true), (2, true), (3, true), (4, true), (5, false), (6, true), (7, true), (8, true), (9, true), (10, true), (11, true), (12, true), (13, true), (14, false), (15, true), (16, true), (17, true), (18, true), (19, true), (20, false), (21, true), (22, true), (23, true), (24, true), (25, true), (26, true), (27, true), (28, true), (29, true), (30, true), (31, true), (32, true), (33, true), (34, true), (35, true), (36, true)] (by kernel_rfl) (by kernel_rfl) (S.sel [0, 1] rfl rfl) fun K20 k20 => ?_
   refine qF H <| qd rfl (fun _ S => (does_field fo_48_0 rfl)) <| qd rfl (fun _ S => does_load one_3 rfl (boxM.rd S (i := 0) rfl rfl)) <| qd rfl (fun _ S => (does_field fo_30_0 rfl)) <| qd rfl (fun _ S => does_load one_3 rfl (boxM.rd S (i := 1) rfl rfl)) <| qd rfl (fun _ S => does_sub rfl rfl (by unfold i64ok; omega)) <| qK ?_;clear H a;intro a H
   refine wq_eff rfl ?_
   refine list_call H rfl rfl Try.func60 rfl rfl (tm_within _ _ _ _) ?_;clear H a
   rintro _ _ a ⟨rfl, rfl⟩ H
   refine wpList_nil (And.intro (S.sel [0, 1] rfl rfl) ?_)
   refine qF H <| qd rfl (fun _ S => does_notw_f rfl (by omega)) <| qr 1 rfl <| qK ?_;clear H a;intro a H
   refine wq_yes H rfl rfl rfl rfl (fun _ S => (does_field fo_48_1 rfl)) ?_;clear H a;intro a H
   refine wq_yes H rfl rfl rfl rfl (fun _ S => does_load one_3 rfl (boxM.rd S (i := 0) rfl rfl)) ?_;clear H a;intro a H
   refine wq_yes H rfl rfl rfl rfl (fun _ S => (does_field fo_30_6 rfl)) ?_;clear H a;intro a H
   refine wq_yes H rfl rfl rfl rfl (fun _ S => does_load one_27 rfl (boxM.rd S (i := 1) rfl rfl)) ?_;clear H a;intro a H
   refine wq_yes H rfl rfl rfl rfl (fun _ S => does_len sl_27 rfl) ?_;clear H a;intro a H
   refine wq_yes H rfl rfl rfl rfl (fun _ S => does_sub rfl rfl (by unfold i64ok; omega)) ?_;clear H a;intro a H
   refine wq_eff rfl ?_
   refine list_yes H rfl rfl ?_
   refine list_call H rfl rfl Try.func60 rfl rfl (tm_within _ _ _ _) ?_;clear H a
   rintro _ _ a ⟨rfl, rfl⟩ H
   refine wpList_nil (And.intro (S.sel [0, 1] rfl rfl) ?_)
   refine wq_yes H rfl rfl rfl rfl (fun _ S => does_notw_f rfl (by omega)) ?_;clear H a;intro a H
   refine qF H <| qd rfl (fun _ S => (does_or rfl rfl rfl)) <| qr 1 rfl <| qK ?_;clear H a;intro a H
   refine wq_yes H rfl rfl rfl rfl (fun _ S => (does_field fo_48_2 rfl)) ?_;clear H a;intro a H
   refine wq_yes H rfl rfl rfl rfl (fun _ S => does_load one_3 rfl (boxM.rd S (i := 0) rfl rfl)) ?_;clear H a;intro a H
   refine wq_eff rfl ?_
   refine list_yes H rfl rfl ?_
   refine list_call H rfl rfl Try.func60 rfl rfl (tm_within _ _ _ _) ?_;clear H a
   rintro _ _ a ⟨rfl, rfl⟩ H
   refine wpList_nil (And.intro (S.sel [0, 1] rfl rfl) ?_)
   refine wq_yes H rfl rfl rfl rfl (fun _ S => does_notw_t rfl (by omega)) ?_;clear H a;intro a H
   refine qF H <| qd rfl (fun _ S => (does_or rfl rfl rfl)) <| qr 1 rfl <| qK ?_;clear H a;intro a H
   refine wq_no H rfl rfl rfl rfl rfl ?_;clear H a;intro a H
   refine wq_no H rfl rfl rfl rfl rfl ?_;clear H a;intro a H
   refine wq_no H rfl rfl rfl rfl rfl ?_;clear H a;intro a H
   refine wq_un H rfl rfl rfl rfl ?_;clear H a;intro a H
   refine wq_un H rfl rfl rfl rfl ?_;clear H a;intro a H
   refine wq_un H rfl rfl rfl rfl ?_;clear H a;intro a H
   refine wq_un H rfl rfl rfl rfl ?_;clear H a;intro a H
   refine wq_un H rfl rfl rfl rfl ?_;clear H a;intro a H
   refine wq_un H rfl rfl rfl rfl ?_;clear H a;intro a H
   refine wq_un H rfl rfl rfl rfl ?_;clear H a;intro a H
   refine wq_un H rfl rfl rfl rfl ?_;clear H a;intro a H
   refine wq_no H rfl rfl rfl rfl rfl ?_;clear H a;intro a H
   refine qF H <| qd rfl (fun _ S => (does_pick rfl rfl rfl)) <| qK ?_;clear H a;intro a H
   refine wq_nil ?_
   refine k20 _ _ ?_
   clear k20 K20
   refine cond_ H rfl (fun hc6 => ?_) (fun hc6 => ?_)
   ·skip
    skip
    replace H := H.keep [] rfl
    refine sS H fun K21 k21=>sr 1 rfl <| sE ?_;clear H a;intro a H
    refine k21 _ ?_;clear k21 K21
    refine wp_ret ?_
    refine ret1 (fn := Try.f36) rfl H rfl ?_
    rw [taskE_bad hye (by omega) (show k < l.length by omega) (tsk_bad1 (by omega))]; exact ⟨rfl, (S.sel [] rfl rfl)⟩
   skip
   cases hc6
  ·skip
   skip
   replace H := H.keep [1, 2, 6, 7, 16, 17, 18] rfl
   replace S := S.drew
   refine seq_wq [(0, true), (1, true), (2, true), (3, true), (4, true), (5, false), (6, true), (7, true), (8, true), (9, true), (10, true), (11, true), (12, true), (13, true), (14, false), (15, true), (16, true), (17, true), (18, true), (19, true), (20, false), (21, true), (22, true), (23, true), (24, true), (25, true), (26, true), (27, true), (28, true), (29, true), (30, true), (31, true), (32, true), (33, true), (34, true), (35, true), (36, true)] (by kernel_rfl) (by kernel_rfl) (S.sel [0, 1] rfl rfl) fun K22 k22 => ?_
   refine qF H <| qd rfl (fun _ S => (does_field fo_48_0 rfl)) <| qd rfl (fun _ S => does_load one_3 rfl (boxM.rd S (i := 0) rfl rfl)) <| qd rfl (fun _ S => (does_field fo_30_0 rfl)) <| qd rfl (fun _ S => does_load one_3 rfl (boxM.rd S (i := 1) rfl rfl)) <| qd rfl (fun _ S => does_sub rfl rfl (by unfold i64ok; omega)) <| qK ?_;clear H a;intro a H
   refine wq_eff rfl ?_
   refine list_call H rfl rfl Try.func60 rfl rfl (tm_within _ _ _ _) ?_;clear H a
   rintro _ _ a ⟨rfl, rfl⟩ H
   refine wpList_nil (And.intro (S.sel [0, 1] rfl rfl) ?_)
   refine qF H <| qd rfl (fun _ S => does_notw_f rfl (by omega)) <| qr 1 rfl <| qK ?_;clear H a;intro a H
   refine wq_yes H rfl rfl rfl rfl (fun _ S => (does_field fo_48_1 rfl)) ?_;clear H a;intro a H
   refine wq_yes H rfl rfl rfl rfl (fun _ S => does_load one_3 rfl (boxM.rd S (i := 0) rfl rfl)) ?_;clear H a;intro a H
   refine wq_yes H rfl rfl rfl rfl (fun _ S => (does_field fo_30_6 rfl)) ?_;clear H a;intro a H
   refine wq_yes H rfl rfl rfl rfl (fun _ S => does_load one_27 rfl (boxM.rd S (i := 1) rfl rfl)) ?_;clear H a;intro a H
   refine wq_yes H rfl rfl rfl rfl (fun _ S => does_len sl_27 rfl) ?_;clear H a;intro a H
   refine wq_yes H rfl rfl rfl rfl (fun _ S => does_sub rfl rfl (by unfold i64ok; omega)) ?_;clear H a;intro a H
   refine wq_eff rfl ?_
   refine list_yes H rfl rfl ?_
   refine list_call H rfl rfl Try.func60 rfl rfl (tm_within _ _ _ _) ?_;clear H a
   rintro _ _ a ⟨rfl, rfl⟩ H
   refine wpList_nil (And.intro (S.sel [0, 1] rfl rfl) ?_)
   refine wq_yes H rfl rfl rfl rfl (fun _ S => does_notw_f rfl (by omega)) ?_;clear H a;intro a H
   refine qF H <| qd rfl (fun _ S => (does_or rfl rfl rfl)) <| qr 1 rfl <| qK ?_;clear H a;intro a H
   refine wq_yes H rfl rfl rfl rfl (fun _ S => (does_field fo_48_2 rfl)) ?_;clear H a;intro a H
   refine wq_yes H rfl rfl rfl rfl (fun _ S => does_load one_3 rfl (boxM.rd S (i := 0) rfl rfl)) ?_;clear H a;intro a H
   refine wq_eff rfl ?_
   refine list_yes H rfl rfl ?_
   refine list_call H rfl rfl Try.func60 rfl rfl (tm_within _ _ _ _) ?_;clear H a
   rintro _ _ a ⟨rfl, rfl⟩ H
   refine wpList_nil (And.intro (S.sel [0, 1] rfl rfl) ?_)
   refine wq_yes H rfl rfl rfl rfl (fun _ S => does_notw_f rfl (by omega)) ?_;clear H a;intro a H
   refine qF H <| qd rfl (fun _ S => (does_or rfl rfl rfl)) <| qr 1 rfl <| qK ?_;clear H a;intro a H
   refine wq_yes H rfl rfl rfl rfl (fun _ S => does_move rfl) ?_;clear H a;intro a H
   refine wq_yes H rfl rfl rfl rfl (fun _ S => does_gt_f rfl rfl (by omega)) ?_;clear H a;intro a H
   refine wq_yes H rfl rfl rfl rfl (fun _ S => does_move rfl) ?_;clear H a;intro a H
   refine wq_no H rfl rfl rfl rfl rfl ?_;clear H a;intro a H
   refine wq_no H rfl rfl rfl rfl rfl ?_;clear H a;intro a H
   refine wq_no H rfl rfl rfl rfl rfl ?_;clear H a;intro a H
   refine wq_no H rfl rfl rfl rfl rfl ?_;clear H a;intro a H
   refine wq_no H rfl rfl rfl rfl rfl ?_;clear H a;intro a H
   refine wq_no H rfl rfl rfl rfl rfl ?_;clear H a;intro a H
   refine wq_no H rfl rfl rfl rfl rfl ?_;clear H a;intro a H
   refine wq_no H rfl rfl rfl rfl rfl ?_;clear H a;intro a H
   refine wq_yes H rfl rfl rfl rfl (fun _ S => (does_pick rfl rfl rfl)) ?_;clear H a;intro a H
   refine qF H <| qd rfl (fun _ S => (does_or rfl rfl rfl)) <| qK ?_;clear H a;intro a H
   refine wq_nil ?_
   refine k22 _ _ ?_
   clear k22 K22
   refine cond_ H rfl (fun hc7 => ?_) (fun hc7 => ?_)
   ·skip
    skip
    cases hc7
   skip
   refine wp_skip ?_
   refine k14 _ _ ?_
   replace H := H.keep [1, 2, 16, 17, 18] rfl
   refine sO H <| sd (does_add rfl rfl (by unfold i64ok; omega)) <| sr 1 rfl <| sE ?_;clear H a;intro a H
   exact k11 (g1 - 1) (k + 1) a _ (by omega) (by first | exact ⟨by omega, by omega, all_next (f := tskB y l) hp.2.2 (tsk_first hB)⟩ | exact ⟨by omega, by omega, all_next (f := tskB y l) hp.2.2 (tsk_later hB hc8)⟩) (S.sel [1] rfl rfl) (H.keep [18, 1, 2, 16, 17] rfl)
  skip
  replace H := H.keep [1, 2, 6, 7, 16, 17, 18] rfl
  replace S := S.drew
  refine seq_wq [(0, true), (1, true), (2, true), (3, true), (4, true), (5, false), (6, true), (7, true), (8, true), (9, true), (10, true), (11, true), (12, true), (13, true), (14, false), (15, true), (16, true), (17, true), (18, true), (19, true), (20, false), (21, true), (22, true), (23, true), (24, true), (25, true), (26, true), (27, true), (28, true), (29, true), (30, true), (31, true), (32, true), (33, false), (34, true), (35, true), (36, true)] (by kernel_rfl) (by kernel_rfl) (S.sel [0, 1] rfl rfl) fun K24 k24 => ?_
  refine qF H <| qd rfl (fun _ S => (does_field fo_48_0 rfl)) <| qd rfl (fun _ S => does_load one_3 rfl (boxM.rd S (i := 0) rfl rfl)) <| qd rfl (fun _ S => (does_field fo_30_0 rfl)) <| qd rfl (fun _ S => does_load one_3 rfl (boxM.rd S (i := 1) rfl rfl)) <| qd rfl (fun _ S => does_sub rfl rfl (by unfold i64ok; omega)) <| qK ?_;clear H a;intro a H
  refine wq_eff rfl ?_
  refine list_call H rfl rfl Try.func60 rfl rfl (tm_within _ _ _ _) ?_;clear H a
  rintro _ _ a ⟨rfl, rfl⟩ H
  refine wpList_nil (And.intro (S.sel [0, 1] rfl rfl) ?_)
  refine qF H <| qd rfl (fun _ S => does_notw_f rfl (by omega)) <| qr 1 rfl <| qK ?_;clear H a;intro a H
  refine wq_yes H rfl rfl rfl rfl (fun _ S => (does_field fo_48_1 rfl)) ?_;clear H a;intro a H
  refine wq_yes H rfl rfl rfl rfl (fun _ S => does_load one_3 rfl (boxM.rd S (i := 0) rfl rfl)) ?_;clear H a;intro a H
  refine wq_yes H rfl rfl rfl rfl (fun _ S => (does_field fo_30_6 rfl)) ?_;clear H a;intro a H
  refine wq_yes H rfl rfl rfl rfl (fun _ S => does_load one_27 rfl (boxM.rd S (i := 1) rfl rfl)) ?_;clear H a;intro a H
  refine wq_yes H rfl rfl rfl rfl (fun _ S => does_len sl_27 rfl) ?_;clear H a;intro a H
  refine wq_yes H rfl rfl rfl rfl (fun _ S => does_sub rfl rfl (by unfold i64ok; omega)) ?_;clear H a;intro a H
  refine wq_eff rfl ?_
  refine list_yes H rfl rfl ?_
  refine list_call H rfl rfl Try.func60 rfl rfl (tm_within _ _ _ _) ?_;clear H a
  rintro _ _ a ⟨rfl, rfl⟩ H
  refine wpList_nil (And.intro (S.sel [0, 1] rfl rfl) ?_)
  refine wq_yes H rfl rfl rfl rfl (fun _ S => does_notw_f rfl (by omega)) ?_;clear H a;intro a H
  refine qF H <| qd rfl (fun _ S => (does_or rfl rfl rfl)) <| qr 1 rfl <| qK ?_;clear H a;intro a H
  refine wq_yes H rfl rfl rfl rfl (fun _ S => (does_field fo_48_2 rfl)) ?_;clear H a;intro a H
  refine wq_yes H rfl rfl rfl rfl (fun _ S => does_load one_3 rfl (boxM.rd S (i := 0) rfl rfl)) ?_;clear H a;intro a H
  refine wq_eff rfl ?_
  refine list_yes H rfl rfl ?_
  refine list_call H rfl rfl Try.func60 rfl rfl (tm_within _ _ _ _) ?_;clear H a
  rintro _ _ a ⟨rfl, rfl⟩ H
  refine wpList_nil (And.intro (S.sel [0, 1] rfl rfl) ?_)
  refine wq_yes H rfl rfl rfl rfl (fun _ S => does_notw_f rfl (by omega)) ?_;clear H a;intro a H
  refine qF H <| qd rfl (fun _ S => (does_or rfl rfl rfl)) <| qr 1 rfl <| qK ?_;clear H a;intro a H
  refine wq_yes H rfl rfl rfl rfl (fun _ S => does_move rfl) ?_;clear H a;intro a H
  refine wq_yes H rfl rfl rfl rfl (fun _ S => does_gt_t rfl rfl (by omega)) ?_;clear H a;intro a H
  refine wq_yes H rfl rfl rfl rfl (fun _ S => does_move rfl) ?_;clear H a;intro a H
  refine wq_yes H rfl rfl rfl rfl (fun _ S => does_move rfl) ?_;clear H a;intro a H
  refine wq_yes H rfl rfl rfl rfl (fun _ S => does_move rfl) ?_;clear H a;intro a H
  refine wq_yes H rfl rfl rfl rfl (fun _ S => does_sub rfl rfl (by unfold i64ok; omega)) ?_;clear H a;intro a H
  refine wq_yes H rfl rfl rfl rfl (fun _ S => does_index sl_31 sz_48 rfl rfl (hl.adr (by omega)) (by omega) (by omega)) ?_;clear H a;intro a H
  refine wq_yes H rfl rfl rfl rfl (fun _ S => (does_loadIn agg_48 sz_48 rfl S hl (by omega) (by omega))) ?_;clear H a;intro a H
  refine wq_yes H rfl rfl rfl rfl (fun _ S => (does_loadBox agg_48 sz_48 rfl S (i := 0) rfl rfl)) ?_;clear H a;intro a H
  refine wq_eff rfl ?_
  refine list_yes H rfl rfl ?_
  refine list_call H rfl rfl Try.func61 rfl rfl (tm_before (l.getD ((k : Int) - 1).toNat Tsk.zero) (l.getD k Tsk.zero) _) ?_;clear H a
  rintro _ _ a ⟨rfl, S2⟩ H
  replace S := S.call S2;clear S2
  refine wpList_nil (And.intro (S.sel [0, 1] rfl rfl) ?_)
  refine wq_yes H rfl rfl rfl rfl (fun _ S => does_not rfl) ?_;clear H a;intro a H
  refine wq_yes H rfl rfl rfl rfl (fun _ S => (does_and rfl rfl rfl)) ?_;clear H a;intro a H
  refine qF H <| qd rfl (fun _ S => (does_or rfl rfl rfl)) <| qK ?_;clear H a;intro a H
  refine wq_nil ?_
  refine k24 _ _ ?_
  clear k24 K24
  refine cond_ H rfl (fun hc8 => ?_) (fun hc8 => ?_)
  ·skip
   try simp only [o1,o2,o3,o4,o5,o6,o7,o8,o9,oa] at hc8
   replace hc8 : befB (l.getD ((k : Int) - 1).toNat Tsk.zero) (l.getD k Tsk.zero) = false := by simpa using hc8
   replace H := H.keep [] rfl
   refine sS H fun K25 k25=>sr 1 rfl <| sE ?_;clear H a;intro a H
   refine k25 _ ?_;clear k25 K25
   refine wp_ret ?_
   refine ret1 (fn := Try.f36) rfl H rfl ?_
   rw [taskE_bad hye (by omega) (show k < l.length by omega) (tsk_bad2 hB hc8)]; exact ⟨rfl, (S.sel [] rfl rfl)⟩
  try simp only [o1,o2,o3,o4,o5,o6,o7,o8,o9,oa] at hc8
  replace hc8 : befB (l.getD ((k : Int) - 1).toNat Tsk.zero) (l.getD k Tsk.zero) = true := by simpa using hc8
  refine wp_skip ?_
  refine k14 _ _ ?_
  refine sO H <| sd (does_add rfl rfl (by unfold i64ok; omega)) <| sr 1 rfl <| sE ?_;clear H a;intro a H
  exact k11 (g1 - 1) (k + 1) a _ (by omega) (by first | exact ⟨by omega, by omega, all_next (f := tskB y l) hp.2.2 (tsk_first hB)⟩ | exact ⟨by omega, by omega, all_next (f := tskB y l) hp.2.2 (tsk_later hB hc8)⟩) (S.sel [1] rfl rfl) (H.keep [18, 1, 2, 16, 17] rfl)
 refine wp_exit ?_
 refine k9 _ _ ?_
 refine sS H fun K27 k27=>sr 1 rfl <| sE ?_;clear H a;intro a H
 refine k27 _ ?_;clear k27 K27
 refine wp_ret ?_
 refine ret1 (fn := Try.f36) rfl H rfl ?_
 rw [taskE_ok hye (by omega) (allN_iff.2 fun q hq => hp.2.2 q (by omega))]; exact ⟨rfl, (S.sel [] rfl rfl)⟩

end Go.Proofs.Ytopmadlgolnmfaa
