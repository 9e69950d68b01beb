/- LtD. Printed by gen.py. -/
import Derived.Test.YtopmadlgolnmfaaLtB
import Derived.Test.YtopmadlgolnmfaaLvs
namespace Go.Proofs.Ytopmadlgolnmfaa
open Go.RowKit
set_option linter.unusedVariables false
set_option linter.unusedSimpArgs false
set_option maxRecDepth 100000
set_option maxHeartbeats 4000000


theorem tl_Lives (y : Yr) (u : Int) (w : World) (hy : YIn w noF y) (hyb : YBd y) :
    Calls Try.prog 6 [.agg [.int .i64 y.days, .int .i64 y.pl, .slice y.PA y.ps.length y.pc, .slice y.XA y.xs.length y.xc, .slice y.BA y.pe.length y.bc, .int .i64 y.limit, .bool y.help, .slice y.QA y.prs.length y.qc, .slice y.VA y.us.length y.vc, .int .i64 y.crew, .slice y.SA y.sps.length y.sc].toArray, .int .i64 u].toArray w (Ret (fun v w' => v = .bool true ∧ St w noF [] w')) := by
 have husn := hyb.usn
 refine enter Try.func6 rfl Try.ntmps6 rfl (fun a H => ?_)
 have S := St.start w
 refine seq_list fun K1 k1 => ?_
 refine list_box H rfl S rfl rfl ?_;clear H a S;intro b2 _ a hb2 hbw2 S H
 refine ls 1 H <| sr 1 rfl <| sE ?_;clear H a;intro a H
 refine k1 _ _ ?_;clear k1 K1
 refine wp_seq_k fun K2 k2 => ?_
 replace H := H.keep [1, 2] rfl
 refine seq_list fun K3 k3 => ?_
 refine ls 1 H <| sd ((does_loadBox agg_30 sz_30 rfl S (i := 0) rfl rfl)) <| sE ?_;clear H a;intro a H
 refine list_call H rfl rfl Try.func9 rfl rfl (law12_Long y _ (hy.now S) hyb) ?_;clear H a
 rintro _ _ a ⟨bL, rfl, hbL, S2⟩ H
 replace S := S.call S2;clear S2
 refine ls 1 H <| sr 1 rfl <| sE ?_;clear H a;intro a H
 apply list_guard (i := 2) (g := 14) (t := 17) (b := false) 3 H S rfl rfl (by kernel_rfl) (by kernel_rfl) rfl rfl
 case h1 =>
  intro hg3
  have hq3 := hg3; try simp only [o1,o2,o3,o4,o5,o6,o7,o8,o9,oa] at hq3
  refine ls 1 H <| sy hg3 <| sd ((does_loadBox agg_30 sz_30 rfl S (i := 0) rfl rfl)) <| sE ?_;intro a H
  refine list_yes' H rfl rfl (by assumption) ?_
  refine list_call H rfl rfl Try.func19 rfl rfl (rt_CheckYear y _ (hy.now S) hyb) ?_
  rintro _ _ a ⟨rfl, S2⟩ H
  replace S := S.call S2;clear S2
  refine ls 1 H <| sy hg3 <| sr 1 rfl <| sE ?_;intro a H
  exact wpList_nil ⟨H.strip 3 rfl rfl, (S.sel [0] rfl rfl)⟩
 clear H a S;intro a _ H S
 refine ls 12 H <| so rfl rfl rfl <| sr 1 rfl <| sg 2 7 19 21 false rfl rfl (fun hg8 => by
     have hq8 := hg8;try simp only [o1,o2,o3,o4,o5,o6,o7,o8,o9,oa] at hq8
     exact sy hg8 <| sr 1 rfl <| sy hg8 <| sr 1 rfl <| sz 2 rfl rfl rfl) <| so rfl rfl rfl <| sr 1 rfl <| sg 5 11 23 28 false rfl rfl (fun hg12 => by
     have hq12 := hg12;try simp only [o1,o2,o3,o4,o5,o6,o7,o8,o9,oa] at hq12
     exact sy hg12 <| sr 1 rfl <| sy hg12 <| sf fo_30_6 rfl <| sy hg12 <| sl S 0 one_27 rfl rfl rfl <| sy hg12 <| sL sl_27 rfl <| sy hg12 <| sr 1 rfl <| sz 5 rfl rfl rfl) <| so rfl rfl rfl <| sE ?_;clear H a;intro a H
 refine k3 _ _ ?_;clear k3 K3
 refine cond_ H rfl (fun hc1 => ?_) (fun hc1 => ?_)
 ·skip
  try simp only [o1,o2,o3,o4,o5,o6,o7,o8,o9,oa] at hc1
  replace H := H.keep [] rfl
  refine seq_list fun K4 k4 => ?_
  refine list_call H rfl rfl Try.func11 rfl rfl (law12_works _) ?_;clear H a
  rintro _ _ a ⟨rfl, S2⟩ H
  replace S := S.call S2;clear S2
  refine ls 1 H <| sr 1 rfl <| sE ?_;clear H a;intro a H
  refine k4 _ _ ?_;clear k4 K4
  refine wp_ret ?_
  refine ret1 (fn := Try.f6) rfl H rfl ?_
  first | exact ⟨rfl, (S.sel [] rfl rfl)⟩ | (refine ⟨congrArg Value.bool ?_, (S.sel [] rfl rfl)⟩; rw [Bool.and_true, Bool.and_eq_true, Bool.and_eq_true, decide_eq_true_eq, decide_eq_true_eq, decide_eq_true_eq]; exact ⟨⟨hz, hdp.1⟩, hdn⟩)
 try simp only [o1,o2,o3,o4,o5,o6,o7,o8,o9,oa] at hc1
 obtain ⟨⟨⟨hb1, hye⟩, hu0⟩, hu1⟩ := hc1
 obtain ⟨i, rfl⟩ : ∃ i : Nat, u = i := ⟨u.toNat, by omega⟩
 have hi : i < y.us.length := by omega
 have hok := year_ok hye
 have hdy := hok.days
 have hD : ((y.days.toNat : Nat) : Int) = y.days := by omega
 have hun := hok.unit hi
 have hui := hun.i
 unfold untI at hui
 have hold := hok.old hi
 have hte : taskE y [] = 0 := taskE_ok hye (by decide) rfl
 have hmx : maxLen = 9223372036854775807 := rfl
 have hz : askdE y [] (i : Int) = 0 := askd_ok hte (by omega)
 refine wp_skip ?_
 refine k2 _ _ ?_
 refine seq_list fun K5 k5 => ?_
 refine ls 5 H <| sf fo_30_6 rfl <| sl S 0 one_27 rfl rfl rfl <| sr 1 rfl <| si sl_27 sz_65 rfl rfl (hy.us.adr (by omega)) (by omega) <| sd ((does_loadIn agg_65 sz_65 rfl S hy.us (by omega) (by omega))) <| sE ?_;clear H a;intro a H
 refine list_alloc H rfl S ze_65 ?_;clear H a S;intro b5 _ a hb5 hbw5 S H
 refine list_store H S (i := 0) rfl rfl rfl rfl sz_65 rfl rfl ?_
 clear H a S;intro _ a S H
 refine k5 _ _ ?_;clear k5 K5
 replace H := H.keep [1, 2, 5] rfl
 refine seq_list fun K6 k6 => ?_
 refine ls 2 H <| sd ((does_loadBox agg_30 sz_30 rfl S (i := 1) rfl rfl)) <| sr 1 rfl <| sE ?_;clear H a;intro a H
 refine list_call H rfl rfl Try.func16 rfl rfl (tm_Due y (i : Int) _ (hy.now S) hyb) ?_;clear H a
 rintro _ _ a ⟨rfl, S2⟩ H
 replace S := S.call S2;clear S2
 refine ls 5 H <| sr 5 rfl <| sE ?_;clear H a;intro a H
 refine k6 _ _ ?_;clear k6 K6
 refine sS H fun K7 k7=>sr 1 rfl <| sE ?_;clear H a;intro a H
 refine k7 _ ?_;clear k7 K7
 refine wp_seq_k fun K8 k8 => ?_
 replace H := H.keep [2, 5, 6, 7, 8] rfl
 refine sS H fun K9 k9=>sr 1 rfl <| sE ?_;clear H a;intro a H
 refine k9 _ ?_;clear k9 K9
 refine wp_block ?_
 replace S := S.newNil 72 6 (ucell (plP (y.us.getD i Unt.zero) 0))
 refine loop_st (X := Nat × Option Addr × Nat) (R0 := _) [2, 5, 6, 7] H rfl (fun ⟨d, A9, c9⟩ => [(8, .slice A9 d c9), (9, .int .i64 (d : Int))]) (fun ⟨d, A9, c9⟩ => [ownM 72 6 A9 d c9 (ucell (plP (y.us.getD i Unt.zero) d))]) (fun g ⟨d, A9, c9⟩ => d ≤ y.days.toNat ∧ g + d = y.days.toNat ∧ ∀ q, q < d → q < y.days.toNat ∧ (q : Int) - (y.us.getD i Unt.zero).seen ≤ (y.us.getD i Unt.zero).every) (y.days.toNat) (0, none, 0) ?_ (S.sel [0, 1, 2] rfl rfl) (H.keep [8, 9, 2, 5, 6, 7] rfl) ?_
 · exact ⟨by omega, by omega, fun q hq => absurd hq (Nat.not_lt_zero q)⟩
 clear H S a
 intro g1 x1 a w1 hp S H K10 k10
 obtain ⟨d, A9, c9⟩ := x1
 dsimp only at hp S H
 refine wp_seq_k fun K11 k11 => ?_
 replace H := H.keep [2, 5, 6, 7, 8, 9] rfl
 refine sS H fun K12 k12=>sr 1 rfl <| sf fo_30_0 rfl <| sl S 2 one_3 rfl rfl rfl <| sr 2 rfl <| sg 7 4 46 53 true rfl rfl (fun hg5 => by
     have hq5 := hg5;try simp only [o1,o2,o3,o4,o5,o6,o7,o8,o9,oa] at hq5
     exact sy hg5 <| sr 1 rfl <| sy hg5 <| sf fo_65_2 rfl <| sy hg5 <| sl S 1 one_3 rfl rfl rfl <| sy hg5 <| sd (does_sub rfl rfl (by unfold i64ok; omega)) <| sy hg5 <| sf fo_65_1 rfl <| sy hg5 <| sl S 1 one_3 rfl rfl rfl <| sy hg5 <| sr 1 rfl <| sz 7 rfl rfl rfl) <| sa rfl rfl rfl <| sE ?_;clear H a;intro a H
 refine k12 _ ?_;clear k12 K12
 refine cond_ H rfl (fun hc2 => ?_) (fun hc2 => ?_)
 ·skip
  try simp only [o1,o2,o3,o4,o5,o6,o7,o8,o9,oa] at hc2
  refine wp_skip ?_
  refine k11 _ _ ?_
  refine wp_seq_k fun K13 k13 => ?_
  refine wp_block ?_
  replace H := H.keep [2, 5, 6, 7, 8, 9] rfl
  refine one_list ?_
  refine ls 10 H <| sr 1 rfl <| sf fo_65_5 rfl <| sl S 1 one_3 rfl rfl rfl <| sr 1 rfl <| sd (does_add rfl rfl (by unfold i64ok; omega)) <| sf fo_65_6 rfl <| sl S 1 one_3 rfl rfl rfl <| sf fo_65_7 rfl <| sl S 1 one_3 rfl rfl rfl <| sd (does_build bt_72 rfl rfl) <| sE ?_;clear H a;intro a H
  refine list_build' H rfl S sl_63 sz_72 ze_72 rfl rfl rfl rfl rfl rfl rfl rfl rfl ?_;clear H a S;intro A1 _ a hA1 S H
  refine list_append H rfl S sl_63 sz_72 ze_72 by_72 rfl rfl (i := 1) rfl rfl rfl (ownM.inS S (i := 0) rfl) (one_vs (six rfl rfl rfl rfl rfl rfl)) (by omega) (by omega) ?_;clear H a S;intro A2 c2 _ a S H
  replace S := S.recell (i := 1) rfl (cell' := ucell (plP (y.us.getD i Unt.zero) (d + 1))) (fun k9 j9 hk9 hj9 => by rw [plP_succ]; have h9 := ucell_snoc (l := plP (y.us.getD i Unt.zero) d) (x := plU (y.us.getD i Unt.zero) d) (vs := [.int .i64 ((y.us.getD i Unt.zero).old + d), .int .i64 (y.us.getD i Unt.zero).tn, .int .i64 (y.us.getD i Unt.zero).cl, .bool false, .int .i64 0, .int .i64 0]) (six rfl rfl rfl rfl rfl rfl) k9 j9 (by rw [plP_len]; exact hk9) hj9; rw [plP_len] at h9; exact h9)
  refine ls 1 H <| sr 1 rfl <| sE ?_;clear H a;intro a H
  refine k13 _ _ ?_
  replace H := H.keep [2, 5, 6, 7, 8, 9] rfl
  refine sO H <| sr 1 rfl <| sd (does_add rfl rfl (by unfold i64ok; omega)) <| sr 1 rfl <| sE ?_;clear H a;intro a H
  exact k10 (g1 - 1) (d + 1, _, _) a _ (by omega) (⟨by omega, by omega, fun q hq => by
    by_cases e : q = d
    · subst e; omega
    · exact hp.2.2 q (by omega)⟩) (S.sel [1, 2, 3] rfl rfl) (H.keep [8, 9, 2, 5, 6, 7] rfl)
 try simp only [o1,o2,o3,o4,o5,o6,o7,o8,o9,oa] at hc2
 refine wp_exit ?_
 refine k8 _ _ ?_
 have hdp := due_pl (u := (y.us.getD i Unt.zero)) (m := d) (n := y.days.toNat) (by omega) (checkP_ok (wearE_zero hun.wear).1) (wearE_zero hun.wear).2 hun.i (J := jobF [] i) (fun q => rfl) hp.2.2 (by omega) (by omega)
 have hdn : ((dueN y (i : Int) : Nat) : Int) = max 0 (lastO (y.us.getD i Unt.zero).part (y.us.getD i Unt.zero).uses (plP (y.us.getD i Unt.zero) d)).1 := by
   unfold dueN
   rw [if_neg (by omega)]
   exact hdp.2.symm
 replace H := H.keep [5, 6, 7, 8] rfl
 replace S := S.drew
 refine seq_wq [(0, true), (1, true), (3, true), (4, true), (6, true), (2, false), (5, false), (7, false), (8, true), (9, true), (10, true), (11, true), (12, true)] (by kernel_rfl) (by kernel_rfl) (S.sel [0, 1, 2] rfl rfl) fun K16 k16 => ?_
 refine qF H <| qd rfl (fun _ S => (does_field fo_65_3 rfl)) <| qd rfl (fun _ S => (does_loadBox agg_62 sz_62 rfl S (i := 1) rfl rfl)) <| qd rfl (fun _ S => (does_field fo_65_4 rfl)) <| qd rfl (fun _ S => does_load one_63 rfl (boxM.rd S (i := 1) rfl rfl)) <| qr 1 rfl <| qK ?_;clear H a;intro a H
 refine wq_eff rfl ?_
 refine list_call H rfl rfl Try.func21 rfl rfl (ref_Copy (y.us.getD i Unt.zero).rates (y.us.getD i Unt.zero).worn (y.us.getD i Unt.zero).turns (y.us.getD i Unt.zero).age (y.us.getD i Unt.zero).RA (y.us.getD i Unt.zero).rc _ ((hy.rt i hi).now S) (hyb.rt i hi)) ?_;clear H a
 rintro _ _ a ⟨A2, c2, rfl, S2⟩ H
 replace S := S.call S2;clear S2
 refine wpList_nil (And.intro (S.sel [1, 2, 3] rfl rfl) ?_)
 refine wq_eff rfl ?_
 refine list_call H rfl rfl Try.func22 rfl rfl (ref_CopyUses (y.us.getD i Unt.zero).uses (y.us.getD i Unt.zero).UA (y.us.getD i Unt.zero).uc _ ((hy.ul i hi).now S) (hyb.ul i hi)) ?_;clear H a
 rintro _ _ a ⟨A3, c3, rfl, S2⟩ H
 replace S := S.call S2;clear S2
 refine wpList_nil (And.intro (S.sel [2, 3, 4] rfl rfl) ?_)
 refine wq_eff rfl ?_
 rw [show Value.slice A9 d c9 = .slice A9 (plP (y.us.getD i Unt.zero) d).length c9 by rw [plP_len]] at H
 refine list_call H rfl rfl Try.func20 rfl rfl (chain_Last (y.us.getD i Unt.zero).rates (y.us.getD i Unt.zero).worn (y.us.getD i Unt.zero).turns (y.us.getD i Unt.zero).age A2 c2 (y.us.getD i Unt.zero).uses A3 c3 (plP (y.us.getD i Unt.zero) d) A9 c9 _ (ownM.inS S (i := 1) rfl) (hyb.rtn hi) (ownM.inS S (i := 0) rfl) (hyb.uln hi) (by rw [plP_len]; exact ownM.inS S (i := 2) rfl) (by rw [plP_len]; omega) (by rw [plP_len]; omega)) ?_;clear H a
 rintro _ _ a ⟨rfl, S2⟩ H
 replace S := S.call S2;clear S2
 refine wpList_nil (And.intro (S.sel [2, 3, 4] rfl rfl) ?_)
 refine qF H <| qr 5 rfl <| qK ?_;clear H a;intro a H
 refine wq_nil ?_
 refine k16 _ _ ?_
 clear k16 K16
 replace H := H.keep [6, 7, 10, 11] rfl
 refine seq_list fun K17 k17 => ?_
 refine ls 13 H <| sr 3 rfl <| sg 2 2 82 84 true rfl rfl (fun hg3 => by
     have hq3 := hg3;try simp only [o1,o2,o3,o4,o5,o6,o7,o8,o9,oa] at hq3
     exact sy hg3 <| sr 1 rfl <| sy hg3 <| sr 1 rfl <| sz 2 rfl rfl rfl) <| sa rfl rfl rfl <| sr 1 rfl <| sg 4 6 86 90 true rfl rfl (fun hg7 => by
     have hq7 := hg7;try simp only [o1,o2,o3,o4,o5,o6,o7,o8,o9,oa] at hq7
     exact sy hg7 <| sr 1 rfl <| sy hg7 <| sr 1 rfl <| sy hg7 <| sd (does_max rfl rfl) <| sy hg7 <| sr 1 rfl <| sz 4 rfl rfl rfl) <| sa rfl rfl rfl <| sr 1 rfl <| sE ?_;clear H a;intro a H
 apply list_guard (i := 12) (g := 92) (t := 93) (b := true) 1 H S rfl rfl (by kernel_rfl) (by kernel_rfl) rfl rfl
 case h1 =>
  intro hg13
  have hq13 := hg13; try simp only [o1,o2,o3,o4,o5,o6,o7,o8,o9,oa] at hq13
  refine list_yes' H rfl rfl (by assumption) ?_
  refine list_call H rfl rfl Try.func11 rfl rfl (law12_works _) ?_
  rintro _ _ a ⟨rfl, S2⟩ H
  replace S := S.call S2;clear S2
  exact wpList_nil ⟨H.strip 1 rfl rfl, (S.sel [0, 1, 2, 3, 4] rfl rfl)⟩
 clear H a S;intro a _ H S
 refine ls 2 H <| sa rfl rfl rfl <| sr 1 rfl <| sE ?_;clear H a;intro a H
 refine k17 _ _ ?_;clear k17 K17
 refine wp_ret ?_
 refine ret1 (fn := Try.f6) rfl H rfl ?_
 first | exact ⟨rfl, (S.sel [] rfl rfl)⟩ | (refine ⟨congrArg Value.bool ?_, (S.sel [] rfl rfl)⟩; rw [Bool.and_true, Bool.and_eq_true, Bool.and_eq_true, decide_eq_true_eq, decide_eq_true_eq, decide_eq_true_eq]; exact ⟨⟨hz, hdp.1⟩, hdn⟩)

theorem law_TermsLives {B : Nat} (x0n0 x0n1 : Int) (x0l2 : List Psg) (x0A2 : Option Addr) (x0c2 : Nat) (x0l3 : List Int) (x0A3 : Option Addr) (x0c3 : Nat) (x0l4 : List Int) (x0A4 : Option Addr) (x0c4 : Nat) (x0n5 : Int) (x0b6 : Bool) (x0l7 : List Prm) (x0A7 : Option Addr) (x0c7 : Nat) (x0l8 : List Unt) (x0A8 : Option Addr) (x0c8 : Nat) (x0n9 : Int) (x0l10 : List Spr) (x0A10 : Option Addr) (x0c10 : Nat) (x1n0 : Int) (W : World) (f02 : InS W noF 7 x0A2 x0l2.length (pcell x0l2)) (g02 : x0l2.length * 56 ≤ 140737488351232) (k02 : x0l2.length ≤ x0c2) (f03 : InS W noF 1 x0A3 x0l3.length (icl x0l3)) (g03 : x0l3.length * 8 ≤ 140737488351232) (k03 : x0l3.length ≤ x0c3) (f04 : InS W noF 1 x0A4 x0l4.length (icl x0l4)) (g04 : x0l4.length * 8 ≤ 140737488351232) (k04 : x0l4.length ≤ x0c4) (f07 : InS W noF 5 x0A7 x0l7.length (prcell x0l7)) (g07 : x0l7.length * 40 ≤ 140737488351232) (k07 : x0l7.length ≤ x0c7) (f08 : InS W noF 12 x0A8 x0l8.length (vcell x0l8)) (g08 : x0l8.length * 120 ≤ 140737488351232) (k08 : x0l8.length ≤ x0c8) (hD : ∀ k, k < x0l8.length → InS W noF 2 (x0l8.getD k Unt.zero).RA (x0l8.getD k Unt.zero).rates.length (scell (x0l8.getD k Unt.zero).rates) ∧ (x0l8.getD k Unt.zero).rates.length * 16 ≤ 140737488351232 ∧ (x0l8.getD k Unt.zero).rates.length ≤ B ∧ (x0l8.getD k Unt.zero).rates.length ≤ (x0l8.getD k Unt.zero).rc ∧ InS W noF 6 (x0l8.getD k Unt.zero).UA (x0l8.getD k Unt.zero).uses.length (ucell (x0l8.getD k Unt.zero).uses) ∧ (x0l8.getD k Unt.zero).uses.length * 48 ≤ 140737488351232 ∧ (x0l8.getD k Unt.zero).uses.length ≤ B ∧ (x0l8.getD k Unt.zero).uses.length ≤ (x0l8.getD k Unt.zero).uc) (f010 : InS W noF 3 x0A10 x0l10.length (spcell x0l10)) (g010 : x0l10.length * 24 ≤ 140737488351232) (k010 : x0l10.length ≤ x0c10)  :
    Calls Try.prog 6 [.agg [.int .i64 x0n0, .int .i64 x0n1, .slice x0A2 x0l2.length x0c2, .slice x0A3 x0l3.length x0c3, .slice x0A4 x0l4.length x0c4, .int .i64 x0n5, .bool x0b6, .slice x0A7 x0l7.length x0c7, .slice x0A8 x0l8.length x0c8, .int .i64 x0n9, .slice x0A10 x0l10.length x0c10].toArray, .int .i64 x1n0].toArray W (Ret fun v w' => v = .bool true ∧ St W noF [] w') := tl_Lives (⟨x0n0, x0n1, x0l2, x0A2, x0c2, x0l3, x0A3, x0c3, x0l4, x0A4, x0c4, x0n5, x0b6, x0l7, x0A7, x0c7, x0l8, x0A8, x0c8, x0n9, x0l10, x0A10, x0c10⟩ : Yr) x1n0 W (⟨f02, f03, f04, f07, f08, f010, fun k hk => (hD k hk).1, fun k hk => (hD k hk).2.2.2.2.1⟩ : YIn W noF (⟨x0n0, x0n1, x0l2, x0A2, x0c2, x0l3, x0A3, x0c3, x0l4, x0A4, x0c4, x0n5, x0b6, x0l7, x0A7, x0c7, x0l8, x0A8, x0c8, x0n9, x0l10, x0A10, x0c10⟩ : Yr)) (⟨g02, g03, g04, g07, g08, g010, fun k hk => (hD k hk).2.1, fun k hk => (hD k hk).2.2.2.2.2.1, fun k hk => (hD k hk).2.2.2.2.2.2.2⟩ : YBd (⟨x0n0, x0n1, x0l2, x0A2, x0c2, x0l3, x0A3, x0c3, x0l4, x0A4, x0c4, x0n5, x0b6, x0l7, x0A7, x0c7, x0l8, x0A8, x0c8, x0n9, x0l10, x0A10, x0c10⟩ : Yr))


end Go.Proofs.Ytopmadlgolnmfaa
