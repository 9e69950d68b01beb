/- LtE. Printed by gen.py. -/
import Derived.Test.YtopmadlgolnmfaaLtC
import Derived.Test.YtopmadlgolnmfaaKps
import Derived.Test.YtopmadlgolnmfaaWyM
namespace Go.Proofs.Ytopmadlgolnmfaa
open Go.RowKit
set_option linter.unusedVariables false
set_option linter.unusedSimpArgs false
set_option maxRecDepth 100000
set_option maxHeartbeats 4000000


theorem judg_any {y : Yr} {l : List Tsk} {w w' : World} {v : Value} (hte : taskE y l = 0) (h : (taskE y l ≠ 0 ∧ v = .tuple #[.int .i64 0, .int .i64 0, .int .i64 (taskE y l)] ∧ St w noF [] w') ∨ (taskE y l = 0 ∧ v = .tuple #[.int .i64 (judgeV y l).1, .int .i64 (judgeV y l).2, .int .i64 0] ∧ St w noF [] w')) : v = .tuple #[.int .i64 (judgeV y l).1, .int .i64 (judgeV y l).2, .int .i64 0] ∧ St w noF [] w' := by
  rcases h with ⟨h0, _⟩ | ⟨_, h⟩
  · exact absurd hte h0
  · exact h
theorem hcl_snoc {y : Yr} {l : List Tsk} {d : Nat} : ∀ k j, k < d + 1 → j < 3 → capp d (hcl (hrP y l d) (fun _ => y.BA) (fun _ => y.bc)) (fun k' j => ([[Value.int .i64 (outY y l d y.us.length), .bool y.help, .slice y.BA y.pe.length y.bc]].getD k' []).getD j undef) k j = hcl (hrP y l (d + 1)) (fun _ => y.BA) (fun _ => y.bc) k j := fun k j hk hj => by
  have hj' : j = 0 ∨ j = 1 ∨ j = 2 := by omega
  unfold capp
  by_cases h : k < d
  · rw [if_pos h]
    rcases hj' with rfl | rfl | rfl <;> (unfold hcl; dsimp only; rw [hrP_get h, hrP_get hk])
  · rw [if_neg h]
    have e : k = d := by omega
    subst e
    rw [Nat.sub_self]
    rcases hj' with rfl | rfl | rfl <;> (unfold hcl; dsimp only; rw [hrP_get hk]; rfl)
theorem ohS_bd {l : List Tsk} {d : Nat} : ∀ n, 0 ≤ ohS l d n ∧ ohS l d n ≤ n := by
  intro n
  induction n with
  | zero => exact ⟨Int.le_refl 0, Int.le_refl 0⟩
  | succ n ih => rw [ohS]; split <;> omega
theorem oh_yes {l : List Tsk} {d m : Nat} (h : (l.getD m Tsk.zero).day = (d : Int) ∧ (l.getD m Tsk.zero).kind = 2) : ohS l d m + 1 = ohS l d (m + 1) := by rw [ohS, if_pos h]
theorem oh_no {l : List Tsk} {d m : Nat} (h : ¬ ((l.getD m Tsk.zero).day = (d : Int) ∧ (l.getD m Tsk.zero).kind = 2)) : ohS l d m = ohS l d (m + 1) := by rw [ohS, if_neg h, Int.add_zero]
theorem keeps_sum {y : Yr} {l : List Tsk} (hok : YOk y) : ∃ (jd jf vbd : Int) (vsf : Bool) (vbr kq : Int) (vkp : Bool), judgeV y l = (jd, jf) ∧ safeV y.pl y.ps y.xs (hrP y l y.days.toNat) y.limit = (vbd, vsf, 0) ∧ keptV y.pl y.ps y.xs (hrP y l y.days.toNat) y.prs = (vbr, kq, vkp, 0) ∧
    ((jf = 0 ∧ jd = 0 ∧ vsf = true ∧ vkp = true) ∨ ∃ d : Nat, jd = d ∧ (d : Int) < y.days ∧ (1 ≤ jf ∧ jf ≤ 4) ∧ (vsf = false → jd ≤ vbd) ∧ (vkp = false → jd ≤ vbr) ∧ (jf = 3 → vkp = false ∧ vbr = jd) ∧ (jf = 4 → vsf = false ∧ vbd = jd ∧ (vkp = true ∨ jd < vbr)) ∧ (jf = 1 ↔ y.crew < jbS l d l.length ∧ jf ≠ 3 ∧ jf ≠ 4) ∧ (jf = 2 → 0 < ohS l d l.length)) := by
  have hsv := sfV_eq (l := l) hok
  have hkv := kpV_eq (l := l) hok
  have hdy := hok.days
  unfold sfV hrL at hsv
  unfold kpV hrL at hkv
  obtain ⟨hk1, hk3, hk4⟩ := hkv
  rcases hk : keptV y.pl y.ps y.xs (hrP y l y.days.toNat) y.prs with ⟨vbr, kq, vkp, ke⟩
  rw [hk] at hk1 hk3 hk4
  dsimp only at hk1 hk3 hk4
  subst hk4
  rcases hs : safeV y.pl y.ps y.xs (hrP y l y.days.toNat) y.limit with ⟨vbd, vsf, se⟩
  rw [hs] at hsv
  rcases hj : judgeV y l with ⟨jd, jf⟩
  have hjs := judge_says (l := l) hok
  rw [hj] at hjs
  dsimp only at hjs
  have hs2 : se = 0 ∧ (vsf = false → vbd = sfN y l) ∧ (vsf = decide (¬ sfN y l < y.days.toNat)) := by
    split at hsv
    · rename_i h
      simp only [Prod.mk.injEq] at hsv
      obtain ⟨h1, h2, h3⟩ := hsv
      exact ⟨h3, fun _ => h1, by rw [h2, decide_eq_false (fun h9 => h9 h)]⟩
    · rename_i h
      simp only [Prod.mk.injEq] at hsv
      obtain ⟨h1, h2, h3⟩ := hsv
      exact ⟨h3, (fun h9 => by rw [h2] at h9; cases h9), by rw [h2, decide_eq_true h]⟩
  obtain ⟨rfl, hs3, hs4⟩ := hs2
  refine ⟨jd, jf, vbd, vsf, vbr, kq, vkp, rfl, rfl, rfl, ?_⟩
  have hk5 : vkp = false → vbr = kpN y l := fun h => by
    rw [hk3, decide_eq_false_iff_not, Classical.not_not] at h
    rw [hk1, if_pos h]
  rcases hjs with ⟨h1, h2, h3, h4⟩ | ⟨d, h0, h1, h2, h3, h4, h5, h6, h7, h8, h9, h10, h11⟩
  · exact .inl ⟨h1, h2, by rw [hs4, decide_eq_true h3], by rw [hk3, decide_eq_true h4]⟩
  · rw [← h2] at h3 h6 h7 h8 h9 h10 h11
    refine .inr ⟨d, h1, by omega, by omega, fun h => by have := hs3 h; omega, fun h => by have := hk5 h; omega, fun h => ?_, fun h => ?_, h8, h9⟩
    · have e := h6 h
      have hkf : vkp = false := by rw [hk3, decide_eq_false_iff_not, Classical.not_not]; omega
      exact ⟨hkf, by have := hk5 hkf; omega⟩
    · have e := h7 h
      have hsf : vsf = false := by rw [hs4, decide_eq_false_iff_not, Classical.not_not]; omega
      refine ⟨hsf, by have := hs3 hsf; omega, ?_⟩
      cases hkp : vkp
      · exact .inr (by have := hk5 hkp; omega)
      · exact .inl rfl


theorem tl_Keeps (y : Yr) (l : List Tsk) (LA : Option Addr) (lc : Nat) (w : World) (hy : YIn w noF y) (hyb : YBd y) (hl : InS w noF 3 LA l.length (tkcell l)) (hln : l.length ≤ 9223372036854775807) :
    Calls Try.prog 3 [.agg [.int .i64 y.days, .int .i64 y.pl, .slice y.PA y.ps.length y.pc, .slice y.XA y.xs.length y.xc, .slice y.BA y.pe.length y.bc, .int .i64 y.limit, .bool y.help, .slice y.QA y.prs.length y.qc, .slice y.VA y.us.length y.vc, .int .i64 y.crew, .slice y.SA y.sps.length y.sc].toArray, .slice LA l.length lc].toArray w (Ret (fun v w' => v = .bool true ∧ St w noF [] w')) := by
 have husn := hyb.usn
 refine enter Try.func3 rfl Try.ntmps3 rfl (fun a H => ?_)
 have S := St.start w
 refine seq_list fun K1 k1 => ?_
 refine list_box H rfl S rfl rfl ?_;clear H a S;intro b2 _ a hb2 hbw2 S H
 refine ls 1 H <| sr 1 rfl <| sE ?_;clear H a;intro a H
 refine k1 _ _ ?_;clear k1 K1
 refine wp_seq_k fun K2 k2 => ?_
 replace H := H.keep [1, 2] rfl
 refine seq_list fun K3 k3 => ?_
 refine ls 1 H <| sd ((does_loadBox agg_30 sz_30 rfl S (i := 0) rfl rfl)) <| sE ?_;clear H a;intro a H
 refine list_call H rfl rfl Try.func9 rfl rfl (law12_Long y _ (hy.now S) hyb) ?_;clear H a
 rintro _ _ a ⟨bL, rfl, hbL, S2⟩ H
 replace S := S.call S2;clear S2
 refine ls 1 H <| sr 1 rfl <| sE ?_;clear H a;intro a H
 apply list_guard (i := 2) (g := 24) (t := 28) (b := false) 4 H S rfl rfl (by kernel_rfl) (by kernel_rfl) rfl rfl
 case h1 =>
  intro hg3
  have hq3 := hg3; try simp only [o1,o2,o3,o4,o5,o6,o7,o8,o9,oa] at hq3
  refine ls 2 H <| sy hg3 <| sd ((does_loadBox agg_30 sz_30 rfl S (i := 0) rfl rfl)) <| sy hg3 <| sr 1 rfl <| sE ?_;intro a H
  refine list_yes' H rfl rfl (by assumption) ?_
  refine list_call H rfl rfl Try.func10 rfl rfl (rt_Check y l LA lc _ (hy.now S) hyb (hl.now S) hln) ?_
  rintro _ _ a ⟨rfl, S2⟩ H
  replace S := S.call S2;clear S2
  refine ls 1 H <| sy hg3 <| sr 1 rfl <| sE ?_;intro a H
  exact wpList_nil ⟨H.strip 4 rfl rfl, (S.sel [0] rfl rfl)⟩
 clear H a S;intro a _ H S
 refine ls 6 H <| so rfl rfl rfl <| sr 1 rfl <| sg 3 8 30 33 false rfl rfl (fun hg9 => by
     have hq9 := hg9;try simp only [o1,o2,o3,o4,o5,o6,o7,o8,o9,oa] at hq9
     exact sy hg9 <| sr 1 rfl <| sy hg9 <| sL sl_31 rfl <| sy hg9 <| sr 1 rfl <| sz 3 rfl rfl rfl) <| so rfl rfl rfl <| sE ?_;clear H a;intro a H
 refine k3 _ _ ?_;clear k3 K3
 refine cond_ H rfl (fun hc1 => ?_) (fun hc1 => ?_)
 ·skip
  try simp only [o1,o2,o3,o4,o5,o6,o7,o8,o9,oa] at hc1
  replace H := H.keep [] rfl
  refine seq_list fun K4 k4 => ?_
  refine list_call H rfl rfl Try.func11 rfl rfl (law12_works _) ?_;clear H a
  rintro _ _ a ⟨rfl, S2⟩ H
  replace S := S.call S2;clear S2
  refine ls 1 H <| sr 1 rfl <| sE ?_;clear H a;intro a H
  refine k4 _ _ ?_;clear k4 K4
  refine wp_ret ?_
  refine ret1 (fn := Try.f3) rfl H rfl ?_
  exact ⟨rfl, (S.sel [] rfl rfl)⟩
 try simp only [o1,o2,o3,o4,o5,o6,o7,o8,o9,oa] at hc1
 obtain ⟨⟨hb1, hte⟩, hl30⟩ := hc1
 have htk0 := task_ok hte
 have hok := year_ok htk0.1
 have hdy := hok.days
 have hD : ((y.days.toNat : Nat) : Int) = y.days := by omega
 have hmx : maxLen = 9223372036854775807 := rfl
 obtain ⟨jd, jf, vbd, vsf, vbr, kq, vkp, hjv, hsv, hkv, hfc⟩ := keeps_sum (l := l) hok
 refine wp_skip ?_
 refine k2 _ _ ?_
 replace H := H.keep [1, 2] rfl
 refine seq_list fun K5 k5 => ?_
 refine ls 2 H <| sd ((does_loadBox agg_30 sz_30 rfl S (i := 0) rfl rfl)) <| sr 1 rfl <| sE ?_;clear H a;intro a H
 have hcl9 := ret_imp (tm_Judge y l LA lc _ (hy.now S) hyb (hl.now S) hln) (fun _ _ h => judg_any hte h)
 refine list_call H rfl rfl Try.func12 rfl rfl hcl9 ?_;clear H a hcl9
 rintro _ _ a ⟨rfl, S2⟩ H
 replace S := S.call S2;clear S2
 rw [hjv] at H
 refine ls 7 H <| sr 7 rfl <| sE ?_;clear H a;intro a H
 refine k5 _ _ ?_;clear k5 K5
 replace H := H.keep [1, 2, 5, 6, 7] rfl
 refine seq_list fun K6 k6 => ?_
 refine ls 2 H <| sd ((does_loadBox agg_30 sz_30 rfl S (i := 0) rfl rfl)) <| sr 1 rfl <| sE ?_;clear H a;intro a H
 have hcl9 := ret_imp (tm_Out y l LA lc _ (hy.now S) hyb (hl.now S) (by first | omega | (rw [List.length_take]; omega))) (fun _ _ h => out_any hte h)
 refine list_call H rfl rfl Try.func13 rfl rfl hcl9 ?_;clear H a hcl9
 rintro _ _ a ⟨A6, c6, rfl, S2⟩ H
 replace S := S.call S2;clear S2
 refine ls 5 H <| sr 5 rfl <| sE ?_;clear H a;intro a H
 refine k6 _ _ ?_;clear k6 K6
 refine wp_seq_k fun K7 k7 => ?_
 replace H := H.keep [1, 2, 5, 6, 7, 8, 9] rfl
 refine sS H fun K8 k8=>sr 3 rfl <| sg 2 2 51 53 false rfl rfl (fun hg3 => by
     have hq3 := hg3;try simp only [o1,o2,o3,o4,o5,o6,o7,o8,o9,oa] at hq3
     exact sy hg3 <| sr 1 rfl <| sy hg3 <| sr 1 rfl <| sz 2 rfl rfl rfl) <| so rfl rfl rfl <| sr 1 rfl <| sg 5 6 55 60 false rfl rfl (fun hg7 => by
     have hq7 := hg7;try simp only [o1,o2,o3,o4,o5,o6,o7,o8,o9,oa] at hq7
     exact sy hg7 <| sr 1 rfl <| sy hg7 <| sL sl_23 rfl <| sy hg7 <| sf fo_30_0 rfl <| sy hg7 <| sl S 1 one_3 rfl rfl rfl <| sy hg7 <| sr 1 rfl <| sz 5 rfl rfl rfl) <| so rfl rfl rfl <| sr 1 rfl <| sg 2 13 62 64 false rfl rfl (fun hg14 => by
     have hq14 := hg14;try simp only [o1,o2,o3,o4,o5,o6,o7,o8,o9,oa] at hq14
     exact sy hg14 <| sr 1 rfl <| sy hg14 <| sr 1 rfl <| sz 2 rfl rfl rfl) <| so rfl rfl rfl <| sr 1 rfl <| sg 2 17 66 68 false rfl rfl (fun hg18 => by
     have hq18 := hg18;try simp only [o1,o2,o3,o4,o5,o6,o7,o8,o9,oa] at hq18
     exact sy hg18 <| sr 1 rfl <| sy hg18 <| sr 1 rfl <| sz 2 rfl rfl rfl) <| so rfl rfl rfl <| sr 1 rfl <| sg 6 21 70 76 false rfl rfl (fun hg22 => by
     have hq22 := hg22;try simp only [o1,o2,o3,o4,o5,o6,o7,o8,o9,oa] at hq22
     exact sy hg22 <| sr 1 rfl <| sy hg22 <| sr 1 rfl <| sy hg22 <| sr 1 rfl <| sg 2 24 73 75 true rfl rfl (fun hg25 => by
          have hq25 := hg25;try simp only [o1,o2,o3,o4,o5,o6,o7,o8,o9,oa] at hq25
          exact sy hg25 <| sr 1 rfl <| sy hg25 <| sr 1 rfl <| sz 2 rfl rfl rfl) <| sy hg22 <| sa rfl rfl rfl <| sz 5 rfl rfl rfl) <| so rfl rfl rfl <| sr 1 rfl <| sg 2 29 78 80 false rfl rfl (fun hg30 => by
     have hq30 := hg30;try simp only [o1,o2,o3,o4,o5,o6,o7,o8,o9,oa] at hq30
     exact sy hg30 <| sr 1 rfl <| sy hg30 <| sr 1 rfl <| sz 2 rfl rfl rfl) <| so rfl rfl rfl <| sr 1 rfl <| sg 4 33 82 86 false rfl rfl (fun hg34 => by
     have hq34 := hg34;try simp only [o1,o2,o3,o4,o5,o6,o7,o8,o9,oa] at hq34
     exact sy hg34 <| sr 1 rfl <| sy hg34 <| sf fo_30_0 rfl <| sy hg34 <| sl S 1 one_3 rfl rfl rfl <| sy hg34 <| sr 1 rfl <| sz 4 rfl rfl rfl) <| so rfl rfl rfl <| sE ?_;clear H a;intro a H
 refine k8 _ ?_;clear k8 K8
 refine cond_ H rfl (fun hc2 => ?_) (fun hc2 => ?_)
 ·skip
  try simp only [o1,o2,o3,o4,o5,o6,o7,o8,o9,oa] at hc2
  exfalso
  simp only [not_true_eq_false, false_or] at hc2
  rcases hfc with ⟨h1, h2, h3, h4⟩ | ⟨d, h1, h2, h3, h4⟩ <;> omega
 try simp only [o1,o2,o3,o4,o5,o6,o7,o8,o9,oa] at hc2
 refine wp_skip ?_
 refine k7 _ _ ?_
 replace H := H.keep [1, 2, 5, 6, 8] rfl
 refine sS H fun K9 k9=>sr 1 rfl <| sE ?_;clear H a;intro a H
 refine k9 _ ?_;clear k9 K9
 refine wp_seq_k fun K10 k10 => ?_
 refine sS H fun K11 k11=>sr 1 rfl <| sE ?_;clear H a;intro a H
 refine k11 _ ?_;clear k11 K11
 refine wp_block ?_
 replace S := S.newNil 42 3 (hcl (hrP y l 0) (fun _ => y.BA) (fun _ => y.bc))
 refine loop_st (X := Nat × Option Addr × Nat) (R0 := _) [1, 2, 5, 6, 8] H rfl (fun ⟨d, A9, c9⟩ => [(10, .slice A9 d c9), (11, .int .i64 (d : Int))]) (fun ⟨d, A9, c9⟩ => [ownM 42 3 A9 d c9 (hcl (hrP y l d) (fun _ => y.BA) (fun _ => y.bc))]) (fun g ⟨d, A9, c9⟩ => d ≤ y.days.toNat ∧ g + d = y.days.toNat) (y.days.toNat) (0, none, 0) ?_ (S.sel [0, 1, 2] rfl rfl) (H.keep [10, 11, 1, 2, 5, 6, 8] rfl) ?_
 · exact ⟨by omega, by omega⟩
 clear H S a
 intro g1 x1 a w1 hp S H K12 k12
 obtain ⟨d, A9, c9⟩ := x1
 dsimp only at hp S H
 refine wp_seq_k fun K13 k13 => ?_
 refine sS H fun K14 k14=>sr 1 rfl <| sf fo_30_0 rfl <| sl S 2 one_3 rfl rfl rfl <| sr 1 rfl <| sE ?_;clear H a;intro a H
 refine k14 _ ?_;clear k14 K14
 refine condL H rfl (fun hc3 => ?_) (fun hc3 => ?_)
 ·skip
  refine wp_skip ?_
  refine k13 _ _ ?_
  refine wp_seq_k fun K15 k15 => ?_
  refine wp_block ?_
  replace H := H.keep [1, 2, 5, 6, 8, 10, 11] rfl
  replace S := S.drew
  refine one_wq [(0, true), (1, true), (2, true), (3, true), (4, true), (5, true), (6, true), (7, true), (8, true), (9, true), (10, false), (11, false), (12, true)] (by kernel_rfl) (by kernel_rfl) (S.sel [1, 2] rfl rfl) ?_
  refine qF H <| qr 3 rfl <| qd rfl (fun _ S => does_indexN sl_23 sz_3 rfl rfl (ownM.adr S (i := 0) rfl (by omega)) (by omega)) <| qd rfl (fun _ S => does_load one_3 rfl (ownM.rd S (i := 0) rfl (by omega) (by omega))) <| qd rfl (fun _ S => (does_field fo_30_4 rfl)) <| qd rfl (fun _ S => does_load one_4 rfl (boxM.rd S (i := 1) rfl rfl)) <| qd rfl (fun _ S => (does_field fo_30_2 rfl)) <| qd rfl (fun _ S => does_load one_23 rfl (boxM.rd S (i := 1) rfl rfl)) <| qd rfl (fun _ S => does_build bt_42 rfl rfl) <| qK ?_;clear H a;intro a H
  refine wq_eff rfl ?_
  refine list_build' H rfl S sl_40 sz_42 ze_42 rfl rfl rfl rfl rfl rfl rfl rfl rfl ?_;clear H a S;intro A1 _ a hA1 S H
  refine wpList_nil (And.intro (S.sel [2, 3] rfl rfl) ?_)
  refine wq_eff rfl ?_
  refine list_append H rfl S sl_40 sz_42 ze_42 by_42 rfl rfl (i := 1) rfl rfl rfl (ownM.inS S (i := 0) rfl) (one_vs (three rfl rfl rfl)) (by omega) (by omega) ?_;clear H a S;intro A2 c2 _ a S H
  replace S := S.recell (i := 1) rfl (cell' := hcl (hrP y l (d + 1)) (fun _ => y.BA) (fun _ => y.bc)) (fun k9 j9 hk9 hj9 => hcl_snoc k9 j9 hk9 hj9)
  refine wpList_nil (And.intro (S.sel [2, 3] rfl rfl) ?_)
  refine qF H <| qr 1 rfl <| qK ?_;clear H a;intro a H
  refine wq_nil ?_
  refine k15 _ _ ?_
  replace H := H.keep [1, 2, 5, 6, 8, 10, 11] rfl
  refine sO H <| sr 1 rfl <| sd (does_add rfl rfl (by unfold i64ok; omega)) <| sr 1 rfl <| sE ?_;clear H a;intro a H
  exact k12 (g1 - 1) (d + 1, _, _) a _ (by omega) (⟨by omega, by omega⟩) (S.sel [1, 2, 3] rfl rfl) (H.keep [10, 11, 1, 2, 5, 6, 8] rfl)
 refine wp_exit ?_
 refine k10 _ _ ?_
 obtain rfl : d = y.days.toNat := by omega
 replace H := H.keep [1, 2, 5, 6, 10] rfl
 refine seq_list fun K18 k18 => ?_
 refine ls 5 H <| sf fo_30_1 rfl <| sd ((does_loadBox agg_25 sz_25 rfl S (i := 2) rfl rfl)) <| sr 1 rfl <| sf fo_30_3 rfl <| sl S 2 one_3 rfl rfl rfl <| sE ?_;clear H a;intro a H
 rw [show Value.slice A9 y.days.toNat c9 = .slice A9 (hrP y l y.days.toNat).length c9 by rw [hrP_len]] at H
 have hcl9 := ways_Safe y.pl y.ps y.PA y.pc y.xs y.XA y.xc (hrP y l y.days.toNat) A9 c9 (fun _ => y.BA) (fun _ => y.bc) y.limit _ (hy.ps.now S) hyb.psn (hy.xs.now S) hyb.xsn (by rw [hrP_len]; exact ownM.inS S (i := 0) rfl) (by rw [hrP_len]; omega) (fun k hk => by rw [hrP_len] at hk; rw [hrP_get hk]; exact hy.pe.now S) (fun k hk => by rw [hrP_len] at hk; rw [hrP_get hk]; exact hyb.pen)
 refine list_call H rfl rfl Try.func14 rfl rfl hcl9 ?_;clear H a hcl9
 rintro _ _ a ⟨rfl, S2⟩ H
 replace S := S.call S2;clear S2
 rw [hsv] at H
 refine ls 7 H <| sr 7 rfl <| sE ?_;clear H a;intro a H
 refine k18 _ _ ?_;clear k18 K18
 replace H := H.keep [1, 2, 5, 6, 10, 12, 13, 14] rfl
 refine seq_list fun K19 k19 => ?_
 refine ls 5 H <| sf fo_30_1 rfl <| sd ((does_loadBox agg_25 sz_25 rfl S (i := 2) rfl rfl)) <| sr 1 rfl <| sf fo_30_5 rfl <| sl S 2 one_26 rfl rfl rfl <| sE ?_;clear H a;intro a H
 have hcl9 := ways_Kept y.pl y.ps y.PA y.pc y.xs y.XA y.xc (hrP y l y.days.toNat) A9 c9 (fun _ => y.BA) (fun _ => y.bc) y.prs y.QA y.qc _ (hy.ps.now S) hyb.psn (hy.xs.now S) hyb.xsn (by rw [hrP_len]; exact ownM.inS S (i := 0) rfl) (by rw [hrP_len]; omega) (fun k hk => by rw [hrP_len] at hk; rw [hrP_get hk]; exact hy.pe.now S) (fun k hk => by rw [hrP_len] at hk; rw [hrP_get hk]; exact hyb.pen) (hy.prs.now S) hyb.prn
 refine list_call H rfl rfl Try.func15 rfl rfl hcl9 ?_;clear H a hcl9
 rintro _ _ a ⟨rfl, S2⟩ H
 replace S := S.call S2;clear S2
 rw [hkv] at H
 refine ls 9 H <| sr 9 rfl <| sE ?_;clear H a;intro a H
 refine k19 _ _ ?_;clear k19 K19
 refine wp_seq_k fun K20 k20 => ?_
 replace H := H.keep [1, 2, 5, 6, 12, 13, 14, 15, 17, 18] rfl
 refine sS H fun K21 k21=>sr 3 rfl <| sg 2 2 129 131 false rfl rfl (fun hg3 => by
     have hq3 := hg3;try simp only [o1,o2,o3,o4,o5,o6,o7,o8,o9,oa] at hq3
     exact sy hg3 <| sr 1 rfl <| sy hg3 <| sr 1 rfl <| sz 2 rfl rfl rfl) <| so rfl rfl rfl <| sE ?_;clear H a;intro a H
 refine k21 _ ?_;clear k21 K21
 refine cond_ H rfl (fun hc4 => ?_) (fun hc4 => ?_)
 ·skip
  try simp only [o1,o2,o3,o4,o5,o6,o7,o8,o9,oa] at hc4
  exfalso
  simp only [not_true_eq_false, or_self] at hc4
 try simp only [o1,o2,o3,o4,o5,o6,o7,o8,o9,oa] at hc4
 refine wp_skip ?_
 refine k20 _ _ ?_
 refine wp_seq_k fun K22 k22 => ?_
 refine sS H fun K23 k23=>sr 2 rfl <| sE ?_;clear H a;intro a H
 refine k23 _ ?_;clear k23 K23
 refine condE H rfl (fun hc5 => ?_) (fun hc5 => ?_)
 ·skip
  replace H := H.keep [13, 17] rfl
  refine seq_list fun K24 k24 => ?_
  refine ls 5 H <| sr 2 rfl <| sg 1 1 136 137 true rfl rfl (fun hg2 => by
      have hq2 := hg2;try simp only [o1,o2,o3,o4,o5,o6,o7,o8,o9,oa] at hq2
      exact sy hg2 <| sr 1 rfl <| sz 1 rfl rfl rfl) <| sa rfl rfl rfl <| sr 1 rfl <| sE ?_;clear H a;intro a H
  apply list_guard (i := 4) (g := 139) (t := 140) (b := true) 1 H S rfl rfl (by kernel_rfl) (by kernel_rfl) rfl rfl
  case h1 =>
   intro hg5
   have hq5 := hg5; try simp only [o1,o2,o3,o4,o5,o6,o7,o8,o9,oa] at hq5
   refine list_yes' H rfl rfl (by assumption) ?_
   refine list_call H rfl rfl Try.func11 rfl rfl (law12_works _) ?_
   rintro _ _ a ⟨rfl, S2⟩ H
   replace S := S.call S2;clear S2
   exact wpList_nil ⟨H.strip 1 rfl rfl, (S.sel [0, 1, 2] rfl rfl)⟩
  clear H a S;intro a _ H S
  refine ls 2 H <| sa rfl rfl rfl <| sr 1 rfl <| sE ?_;clear H a;intro a H
  refine k24 _ _ ?_;clear k24 K24
  refine wp_ret ?_
  refine ret1 (fn := Try.f3) rfl H rfl ?_
  refine ⟨congrArg Value.bool ?_, (S.sel [] rfl rfl)⟩
  rcases hfc with ⟨h1, h2, h3, h4⟩ | ⟨d, h1, h2, h3, h4, h5, h6, h7, h8, h9⟩
  · rw [h3, h4]; rfl
  · exfalso; omega
 refine wp_skip ?_
 refine k22 _ _ ?_
 refine wp_seq_k fun K25 k25 => ?_
 replace H := H.keep [1, 2, 5, 6, 12, 13, 15, 17] rfl
 refine sS H fun K26 k26=>sr 3 rfl <| sg 3 2 144 147 true rfl rfl (fun hg3 => by
     have hq3 := hg3;try simp only [o1,o2,o3,o4,o5,o6,o7,o8,o9,oa] at hq3
     exact sy hg3 <| sr 1 rfl <| sy hg3 <| sr 1 rfl <| sy hg3 <| sr 1 rfl <| sz 3 rfl rfl rfl) <| sa rfl rfl rfl <| sr 1 rfl <| sg 7 7 149 156 false rfl rfl (fun hg8 => by
     have hq8 := hg8;try simp only [o1,o2,o3,o4,o5,o6,o7,o8,o9,oa] at hq8
     exact sy hg8 <| sr 1 rfl <| sy hg8 <| sr 1 rfl <| sy hg8 <| sr 1 rfl <| sg 3 10 152 155 true rfl rfl (fun hg11 => by
          have hq11 := hg11;try simp only [o1,o2,o3,o4,o5,o6,o7,o8,o9,oa] at hq11
          exact sy hg11 <| sr 1 rfl <| sy hg11 <| sr 1 rfl <| sy hg11 <| sr 1 rfl <| sz 3 rfl rfl rfl) <| sy hg8 <| sa rfl rfl rfl <| sz 5 rfl rfl rfl) <| so rfl rfl rfl <| sE ?_;clear H a;intro a H
 refine k26 _ ?_;clear k26 K26
 refine cond_ H rfl (fun hc6 => ?_) (fun hc6 => ?_)
 ·skip
  try simp only [o1,o2,o3,o4,o5,o6,o7,o8,o9,oa] at hc6
  exfalso
  rcases hfc with ⟨h1, h2, h3, h4⟩ | ⟨d, h1, h2, h3, h4, h5, h6⟩
  · exact hc5 h1
  · rcases hc6 with ⟨h7, h8⟩ | ⟨h7, h8⟩
    · have := h4 h7; omega
    · have := h5 h7; omega
 try simp only [o1,o2,o3,o4,o5,o6,o7,o8,o9,oa] at hc6
 refine wp_skip ?_
 refine k25 _ _ ?_
 refine wp_seq_k fun K27 k27 => ?_
 replace H := H.keep [1, 2, 5, 6, 12, 13, 15, 17] rfl
 refine sS H fun K28 k28=>sr 2 rfl <| sE ?_;clear H a;intro a H
 refine k28 _ ?_;clear k28 K28
 refine condE H rfl (fun hc7 => ?_) (fun hc7 => ?_)
 ·skip
  replace H := H.keep [5, 15, 17] rfl
  refine seq_list fun K29 k29 => ?_
  refine ls 8 H <| sr 3 rfl <| sg 3 2 162 165 true rfl rfl (fun hg3 => by
      have hq3 := hg3;try simp only [o1,o2,o3,o4,o5,o6,o7,o8,o9,oa] at hq3
      exact sy hg3 <| sr 1 rfl <| sy hg3 <| sr 1 rfl <| sy hg3 <| sr 1 rfl <| sz 3 rfl rfl rfl) <| sa rfl rfl rfl <| sr 1 rfl <| sE ?_;clear H a;intro a H
  apply list_guard (i := 7) (g := 167) (t := 168) (b := true) 1 H S rfl rfl (by kernel_rfl) (by kernel_rfl) rfl rfl
  case h1 =>
   intro hg8
   have hq8 := hg8; try simp only [o1,o2,o3,o4,o5,o6,o7,o8,o9,oa] at hq8
   refine list_yes' H rfl rfl (by assumption) ?_
   refine list_call H rfl rfl Try.func11 rfl rfl (law12_works _) ?_
   rintro _ _ a ⟨rfl, S2⟩ H
   replace S := S.call S2;clear S2
   exact wpList_nil ⟨H.strip 1 rfl rfl, (S.sel [0, 1, 2] rfl rfl)⟩
  clear H a S;intro a _ H S
  refine ls 2 H <| sa rfl rfl rfl <| sr 1 rfl <| sE ?_;clear H a;intro a H
  refine k29 _ _ ?_;clear k29 K29
  refine wp_ret ?_
  refine ret1 (fn := Try.f3) rfl H rfl ?_
  refine ⟨congrArg Value.bool ?_, (S.sel [] rfl rfl)⟩
  rcases hfc with ⟨h1, h2, h3, h4⟩ | ⟨d, h1, h2, h3, h4, h5, h6, h7, h8, h9⟩
  · exfalso; omega
  · have e := h6 hc7
    rw [e.1, e.2, decide_eq_true rfl]; rfl
 refine wp_skip ?_
 refine k27 _ _ ?_
 refine wp_seq_k fun K30 k30 => ?_
 replace H := H.keep [1, 2, 5, 6, 12, 13, 15, 17] rfl
 refine sS H fun K31 k31=>sr 2 rfl <| sE ?_;clear H a;intro a H
 refine k31 _ ?_;clear k31 K31
 refine condE H rfl (fun hc8 => ?_) (fun hc8 => ?_)
 ·skip
  replace H := H.keep [5, 12, 13, 15, 17] rfl
  refine seq_list fun K32 k32 => ?_
  refine ls 16 H <| sr 3 rfl <| sg 3 2 174 177 true rfl rfl (fun hg3 => by
      have hq3 := hg3;try simp only [o1,o2,o3,o4,o5,o6,o7,o8,o9,oa] at hq3
      exact sy hg3 <| sr 1 rfl <| sy hg3 <| sr 1 rfl <| sy hg3 <| sr 1 rfl <| sz 3 rfl rfl rfl) <| sa rfl rfl rfl <| sr 1 rfl <| sg 6 7 179 185 true rfl rfl (fun hg8 => by
      have hq8 := hg8;try simp only [o1,o2,o3,o4,o5,o6,o7,o8,o9,oa] at hq8
      exact sy hg8 <| sr 1 rfl <| sy hg8 <| sr 1 rfl <| sg 3 9 181 184 false rfl rfl (fun hg10 => by
           have hq10 := hg10;try simp only [o1,o2,o3,o4,o5,o6,o7,o8,o9,oa] at hq10
           exact sy hg10 <| sr 1 rfl <| sy hg10 <| sr 1 rfl <| sy hg10 <| sr 1 rfl <| sz 3 rfl rfl rfl) <| sy hg8 <| so rfl rfl rfl <| sz 4 rfl rfl rfl) <| sa rfl rfl rfl <| sr 1 rfl <| sE ?_;clear H a;intro a H
  apply list_guard (i := 15) (g := 187) (t := 188) (b := true) 1 H S rfl rfl (by kernel_rfl) (by kernel_rfl) rfl rfl
  case h1 =>
   intro hg16
   have hq16 := hg16; try simp only [o1,o2,o3,o4,o5,o6,o7,o8,o9,oa] at hq16
   refine list_yes' H rfl rfl (by assumption) ?_
   refine list_call H rfl rfl Try.func11 rfl rfl (law12_works _) ?_
   rintro _ _ a ⟨rfl, S2⟩ H
   replace S := S.call S2;clear S2
   exact wpList_nil ⟨H.strip 1 rfl rfl, (S.sel [0, 1, 2] rfl rfl)⟩
  clear H a S;intro a _ H S
  refine ls 2 H <| sa rfl rfl rfl <| sr 1 rfl <| sE ?_;clear H a;intro a H
  refine k32 _ _ ?_;clear k32 K32
  refine wp_ret ?_
  refine ret1 (fn := Try.f3) rfl H rfl ?_
  refine ⟨congrArg Value.bool ?_, (S.sel [] rfl rfl)⟩
  rcases hfc with ⟨h1, h2, h3, h4⟩ | ⟨d, h1, h2, h3, h4, h5, h6, h7, h8, h9⟩
  · exfalso; omega
  · have e := h7 hc8
    rw [e.1, e.2.1, decide_eq_true rfl]
    rcases e.2.2 with e2 | e2
    · rw [e2]; rfl
    · rw [decide_eq_true e2, Bool.or_true]; rfl
 refine wp_skip ?_
 refine k30 _ _ ?_
 replace H := H.keep [1, 2, 5, 6] rfl
 refine sS H fun K33 k33=>sr 2 rfl <| sE ?_;clear H a;intro a H
 refine k33 _ ?_;clear k33 K33
 refine wp_seq_k fun K34 k34 => ?_
 refine sS H fun K35 k35=>sr 1 rfl <| sE ?_;clear H a;intro a H
 refine k35 _ ?_;clear k35 K35
 refine wp_block ?_
 refine loop_st (X := Nat) (R0 := _) [1, 2, 5, 6] H rfl (fun i => [(19, .int .i64 (jbS l jd.toNat i)), (20, .int .i64 (ohS l jd.toNat i)), (21, .int .i64 (i : Int))]) (fun i => []) (fun g i => i ≤ l.length ∧ g + i = l.length) (l.length) 0 ?_ (S.sel [0, 1, 2] rfl rfl) (H.keep [19, 20, 21, 1, 2, 5, 6] rfl) ?_
 · exact ⟨by omega, by omega⟩
 clear H S a
 intro g2 x2 a w2 hp S H K36 k36
 obtain ⟨i, rfl⟩ : ∃ y, y = x2 := ⟨_, rfl⟩
 refine wp_seq_k fun K37 k37 => ?_
 refine sS H fun K38 k38=>sr 2 rfl <| sL sl_31 rfl <| sr 1 rfl <| sE ?_;clear H a;intro a H
 refine k38 _ ?_;clear k38 K38
 refine condL H rfl (fun hc9 => ?_) (fun hc9 => ?_)
 ·skip
  refine wp_skip ?_
  refine k37 _ _ ?_
  refine wp_seq_k fun K39 k39 => ?_
  refine wp_block ?_
  refine wp_seq_k fun K40 k40 => ?_
  have hjb := jbS_bd (l := l) (d := jd.toNat) i
  have hoh := ohS_bd (l := l) (d := jd.toNat) i
  replace H := H.keep [1, 2, 5, 6, 19, 20, 21] rfl
  refine sS H fun K41 k41=>sr 2 rfl <| si sl_31 sz_48 rfl rfl (hl.adr (by omega)) (by omega) <| sp fo_48_0 rfl <| slm one_3 rfl (hl.rd S (by omega) (by omega)) <| sr 2 rfl <| sE ?_;clear H a;intro a H
  refine k41 _ ?_;clear k41 K41
  refine condE H rfl (fun hc10 => ?_) (fun hc10 => ?_)
  ·skip
   replace H := H.keep [1, 2, 5, 6, 19, 20, 21] rfl
   refine sO H <| sr 1 rfl <| sd (does_add rfl rfl (by unfold i64ok; omega)) <| sr 1 rfl <| sE ?_;clear H a;intro a H
   refine k40 _ _ ?_
   replace H := H.keep [1, 2, 5, 6, 19, 20, 21] rfl
   refine sS H fun K43 k43=>sr 2 rfl <| si sl_31 sz_48 rfl rfl (hl.adr (by omega)) (by omega) <| sp fo_48_0 rfl <| slm one_3 rfl (hl.rd S (by omega) (by omega)) <| sr 3 rfl <| sg 6 7 212 218 true rfl rfl (fun hg8 => by
       have hq8 := hg8;try simp only [o1,o2,o3,o4,o5,o6,o7,o8,o9,oa] at hq8
       exact sy hg8 <| sr 1 rfl <| sy hg8 <| sr 1 rfl <| sy hg8 <| si sl_31 sz_48 rfl rfl (hl.adr (by omega)) (by omega) <| sy hg8 <| sp fo_48_2 rfl <| sy hg8 <| slm one_3 rfl (hl.rd S (by omega) (by omega)) <| sy hg8 <| sr 1 rfl <| sz 6 rfl rfl rfl) <| sa rfl rfl rfl <| sE ?_;clear H a;intro a H
   refine k43 _ ?_;clear k43 K43
   refine cond_ H rfl (fun hc11 => ?_) (fun hc11 => ?_)
   ·skip
    try simp only [o1,o2,o3,o4,o5,o6,o7,o8,o9,oa] at hc11
    replace H := H.keep [1, 2, 5, 6, 19, 20, 21] rfl
    refine sO H <| sr 1 rfl <| sd (does_add rfl rfl (by unfold i64ok; omega)) <| sr 1 rfl <| sE ?_;clear H a;intro a H
    refine k39 _ _ ?_
    refine sO H <| sr 1 rfl <| sd (does_add rfl rfl (by unfold i64ok; omega)) <| sr 1 rfl <| sE ?_;clear H a;intro a H
    rw [jb_yes (l := l) (d := jd.toNat) (m := i) rfl (by omega), oh_yes (l := l) (d := jd.toNat) (m := i) (by omega)] at H
    exact k36 (g2 - 1) (i + 1) a _ (by omega) (⟨by omega, by omega⟩) (S.sel [0, 1, 2] rfl rfl) (H.keep [19, 20, 21, 1, 2, 5, 6] rfl)
   try simp only [o1,o2,o3,o4,o5,o6,o7,o8,o9,oa] at hc11
   refine wp_skip ?_
   refine k39 _ _ ?_
   refine sO H <| sr 1 rfl <| sd (does_add rfl rfl (by unfold i64ok; omega)) <| sr 1 rfl <| sE ?_;clear H a;intro a H
   rw [jb_yes (l := l) (d := jd.toNat) (m := i) rfl (by omega), oh_no (l := l) (d := jd.toNat) (m := i) (by omega)] at H
   exact k36 (g2 - 1) (i + 1) a _ (by omega) (⟨by omega, by omega⟩) (S.sel [0, 1, 2] rfl rfl) (H.keep [19, 20, 21, 1, 2, 5, 6] rfl)
  refine wp_skip ?_
  refine k40 _ _ ?_
  replace H := H.keep [1, 2, 5, 6, 19, 20, 21] rfl
  refine sS H fun K47 k47=>sr 2 rfl <| si sl_31 sz_48 rfl rfl (hl.adr (by omega)) (by omega) <| sp fo_48_0 rfl <| slm one_3 rfl (hl.rd S (by omega) (by omega)) <| sr 3 rfl <| sg 6 7 212 218 true rfl rfl (fun hg8 => by
      have hq8 := hg8;try simp only [o1,o2,o3,o4,o5,o6,o7,o8,o9,oa] at hq8
      exact sy hg8 <| sr 1 rfl <| sy hg8 <| sr 1 rfl <| sy hg8 <| si sl_31 sz_48 rfl rfl (hl.adr (by omega)) (by omega) <| sy hg8 <| sp fo_48_2 rfl <| sy hg8 <| slm one_3 rfl (hl.rd S (by omega) (by omega)) <| sy hg8 <| sr 1 rfl <| sz 6 rfl rfl rfl) <| sa rfl rfl rfl <| sE ?_;clear H a;intro a H
  refine k47 _ ?_;clear k47 K47
  refine cond_ H rfl (fun hc12 => ?_) (fun hc12 => ?_)
  ·skip
   try simp only [o1,o2,o3,o4,o5,o6,o7,o8,o9,oa] at hc12
   replace H := H.keep [1, 2, 5, 6, 19, 20, 21] rfl
   refine sO H <| sr 1 rfl <| sd (does_add rfl rfl (by unfold i64ok; omega)) <| sr 1 rfl <| sE ?_;clear H a;intro a H
   refine k39 _ _ ?_
   refine sO H <| sr 1 rfl <| sd (does_add rfl rfl (by unfold i64ok; omega)) <| sr 1 rfl <| sE ?_;clear H a;intro a H
   rw [jb_no (l := l) (d := jd.toNat) (m := i) rfl (by omega), oh_yes (l := l) (d := jd.toNat) (m := i) (by omega)] at H
   exact k36 (g2 - 1) (i + 1) a _ (by omega) (⟨by omega, by omega⟩) (S.sel [0, 1, 2] rfl rfl) (H.keep [19, 20, 21, 1, 2, 5, 6] rfl)
  try simp only [o1,o2,o3,o4,o5,o6,o7,o8,o9,oa] at hc12
  refine wp_skip ?_
  refine k39 _ _ ?_
  refine sO H <| sr 1 rfl <| sd (does_add rfl rfl (by unfold i64ok; omega)) <| sr 1 rfl <| sE ?_;clear H a;intro a H
  rw [jb_no (l := l) (d := jd.toNat) (m := i) rfl (by omega), oh_no (l := l) (d := jd.toNat) (m := i) (by omega)] at H
  exact k36 (g2 - 1) (i + 1) a _ (by omega) (⟨by omega, by omega⟩) (S.sel [0, 1, 2] rfl rfl) (H.keep [19, 20, 21, 1, 2, 5, 6] rfl)
 refine wp_exit ?_
 refine k34 _ _ ?_
 replace H := H.keep [2, 6, 19, 20] rfl
 refine seq_list fun K51 k51 => ?_
 refine ls 16 H <| sr 3 rfl <| sf fo_30_7 rfl <| sl S 2 one_3 rfl rfl rfl <| sr 1 rfl <| sd (does_eqlb Try.underlying4 rfl rfl) <| sr 1 rfl <| sg 6 7 229 235 true rfl rfl (fun hg8 => by
     have hq8 := hg8;try simp only [o1,o2,o3,o4,o5,o6,o7,o8,o9,oa] at hq8
     exact sy hg8 <| sr 1 rfl <| sy hg8 <| sr 1 rfl <| sy hg8 <| sr 1 rfl <| sg 2 10 232 234 false rfl rfl (fun hg11 => by
          have hq11 := hg11;try simp only [o1,o2,o3,o4,o5,o6,o7,o8,o9,oa] at hq11
          exact sy hg11 <| sr 1 rfl <| sy hg11 <| sr 1 rfl <| sz 2 rfl rfl rfl) <| sy hg8 <| so rfl rfl rfl <| sz 5 rfl rfl rfl) <| sa rfl rfl rfl <| sr 1 rfl <| sE ?_;clear H a;intro a H
 apply list_guard (i := 15) (g := 237) (t := 238) (b := true) 1 H S rfl rfl (by kernel_rfl) (by kernel_rfl) rfl rfl
 case h1 =>
  intro hg16
  have hq16 := hg16; try simp only [o1,o2,o3,o4,o5,o6,o7,o8,o9,oa] at hq16
  refine list_yes' H rfl rfl (by assumption) ?_
  refine list_call H rfl rfl Try.func11 rfl rfl (law12_works _) ?_
  rintro _ _ a ⟨rfl, S2⟩ H
  replace S := S.call S2;clear S2
  exact wpList_nil ⟨H.strip 1 rfl rfl, (S.sel [0, 1, 2] rfl rfl)⟩
 clear H a S;intro a _ H S
 refine ls 2 H <| sa rfl rfl rfl <| sr 1 rfl <| sE ?_;clear H a;intro a H
 refine k51 _ _ ?_;clear k51 K51
 refine wp_ret ?_
 refine ret1 (fn := Try.f3) rfl H rfl ?_
 refine ⟨congrArg Value.bool ?_, (S.sel [] rfl rfl)⟩
 rcases hfc with ⟨h1, h2, h3, h4⟩ | ⟨d, h1, h2, h3, h4, h5, h6, h7, h8, h9⟩
 · exfalso; omega
 · obtain rfl : l.length = i := by omega
   have ed : jd.toNat = d := by omega
   rw [ed]
   by_cases h10 : jf = 1
   · rw [decide_eq_true h10, decide_eq_true (h8.1 h10).1]; rfl
   · have h11 := h9 (by omega)
     rw [decide_eq_false h10, decide_eq_false (fun h12 => h10 (h8.2 ⟨h12, hc7, hc8⟩)), decide_eq_true h11]; rfl

theorem law_TermsKeeps {B : Nat} (x0n0 x0n1 : Int) (x0l2 : List Psg) (x0A2 : Option Addr) (x0c2 : Nat) (x0l3 : List Int) (x0A3 : Option Addr) (x0c3 : Nat) (x0l4 : List Int) (x0A4 : Option Addr) (x0c4 : Nat) (x0n5 : Int) (x0b6 : Bool) (x0l7 : List Prm) (x0A7 : Option Addr) (x0c7 : Nat) (x0l8 : List Unt) (x0A8 : Option Addr) (x0c8 : Nat) (x0n9 : Int) (x0l10 : List Spr) (x0A10 : Option Addr) (x0c10 : Nat) (x1l0 : List Tsk) (x1A0 : Option Addr) (x1c0 : Nat) (W : World) (f02 : InS W noF 7 x0A2 x0l2.length (pcell x0l2)) (g02 : x0l2.length * 56 ≤ 140737488351232) (k02 : x0l2.length ≤ x0c2) (f03 : InS W noF 1 x0A3 x0l3.length (icl x0l3)) (g03 : x0l3.length * 8 ≤ 140737488351232) (k03 : x0l3.length ≤ x0c3) (f04 : InS W noF 1 x0A4 x0l4.length (icl x0l4)) (g04 : x0l4.length * 8 ≤ 140737488351232) (k04 : x0l4.length ≤ x0c4) (f07 : InS W noF 5 x0A7 x0l7.length (prcell x0l7)) (g07 : x0l7.length * 40 ≤ 140737488351232) (k07 : x0l7.length ≤ x0c7) (f08 : InS W noF 12 x0A8 x0l8.length (vcell x0l8)) (g08 : x0l8.length * 120 ≤ 140737488351232) (k08 : x0l8.length ≤ x0c8) (hD : ∀ k, k < x0l8.length → InS W noF 2 (x0l8.getD k Unt.zero).RA (x0l8.getD k Unt.zero).rates.length (scell (x0l8.getD k Unt.zero).rates) ∧ (x0l8.getD k Unt.zero).rates.length * 16 ≤ 140737488351232 ∧ (x0l8.getD k Unt.zero).rates.length ≤ B ∧ (x0l8.getD k Unt.zero).rates.length ≤ (x0l8.getD k Unt.zero).rc ∧ InS W noF 6 (x0l8.getD k Unt.zero).UA (x0l8.getD k Unt.zero).uses.length (ucell (x0l8.getD k Unt.zero).uses) ∧ (x0l8.getD k Unt.zero).uses.length * 48 ≤ 140737488351232 ∧ (x0l8.getD k Unt.zero).uses.length ≤ B ∧ (x0l8.getD k Unt.zero).uses.length ≤ (x0l8.getD k Unt.zero).uc) (f010 : InS W noF 3 x0A10 x0l10.length (spcell x0l10)) (g010 : x0l10.length * 24 ≤ 140737488351232) (k010 : x0l10.length ≤ x0c10) (f10 : InS W noF 3 x1A0 x1l0.length (tkcell x1l0)) (g10 : x1l0.length * 24 ≤ 140737488351232) (k10 : x1l0.length ≤ x1c0) :
    Calls Try.prog 3 [.agg [.int .i64 x0n0, .int .i64 x0n1, .slice x0A2 x0l2.length x0c2, .slice x0A3 x0l3.length x0c3, .slice x0A4 x0l4.length x0c4, .int .i64 x0n5, .bool x0b6, .slice x0A7 x0l7.length x0c7, .slice x0A8 x0l8.length x0c8, .int .i64 x0n9, .slice x0A10 x0l10.length x0c10].toArray, .slice x1A0 x1l0.length x1c0].toArray W (Ret fun v w' => v = .bool true ∧ St W noF [] w') := tl_Keeps (⟨x0n0, x0n1, x0l2, x0A2, x0c2, x0l3, x0A3, x0c3, x0l4, x0A4, x0c4, x0n5, x0b6, x0l7, x0A7, x0c7, x0l8, x0A8, x0c8, x0n9, x0l10, x0A10, x0c10⟩ : Yr) x1l0 x1A0 x1c0 W (⟨f02, f03, f04, f07, f08, f010, fun k hk => (hD k hk).1, fun k hk => (hD k hk).2.2.2.2.1⟩ : YIn W noF (⟨x0n0, x0n1, x0l2, x0A2, x0c2, x0l3, x0A3, x0c3, x0l4, x0A4, x0c4, x0n5, x0b6, x0l7, x0A7, x0c7, x0l8, x0A8, x0c8, x0n9, x0l10, x0A10, x0c10⟩ : Yr)) (⟨g02, g03, g04, g07, g08, g010, fun k hk => (hD k hk).2.1, fun k hk => (hD k hk).2.2.2.2.2.1, fun k hk => (hD k hk).2.2.2.2.2.2.2⟩ : YBd (⟨x0n0, x0n1, x0l2, x0A2, x0c2, x0l3, x0A3, x0c3, x0l4, x0A4, x0c4, x0n5, x0b6, x0l7, x0A7, x0c7, x0l8, x0A8, x0c8, x0n9, x0l10, x0A10, x0c10⟩ : Yr)) f10 (by omega)


end Go.Proofs.Ytopmadlgolnmfaa
