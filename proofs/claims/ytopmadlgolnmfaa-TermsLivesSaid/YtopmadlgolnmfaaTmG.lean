/- TmG. Printed by gen.py. -/
import Derived.Test.YtopmadlgolnmfaaTmF
import Derived.Test.YtopmadlgolnmfaaH2
namespace Go.Proofs.Ytopmadlgolnmfaa
open Go.RowKit
set_option linter.unusedVariables false
set_option linter.unusedSimpArgs false
set_option maxRecDepth 100000
set_option maxHeartbeats 4000000


theorem tm_asked (y : Yr) (l : List Tsk) (LA : Option Addr) (lc : Nat) (u : Int) (w : World) (hy : YIn w noF y) (hyb : YBd y) (hl : InS w noF 3 LA l.length (tkcell l)) (hln : l.length ≤ 9223372036854775807) :
    Calls Try.prog 46 [.agg [.int .i64 y.days, .int .i64 y.pl, .slice y.PA y.ps.length y.pc, .slice y.XA y.xs.length y.xc, .slice y.BA y.pe.length y.bc, .int .i64 y.limit, .bool y.help, .slice y.QA y.prs.length y.qc, .slice y.VA y.us.length y.vc, .int .i64 y.crew, .slice y.SA y.sps.length y.sc].toArray, .slice LA l.length lc, .int .i64 u].toArray w (Ret (fun v w' => ∃ a9 b9 : Int, v = .tuple #[.agg [.int .i64 a9, .int .i64 b9].toArray, .int .i64 (askdE y l u)] ∧ (askdE y l u = 0 → a9 = bsum (runB' (y.us.getD u.toNat Unt.zero) (jobF l u.toNat)) y.days.toNat ∧ b9 = bsum (certB (y.us.getD u.toNat Unt.zero) (jobF l u.toNat)) y.days.toNat) ∧ St w noF [] w')) := by
 have hn3 := hyb.usn
 refine enter Try.func46 rfl Try.ntmps46 rfl (fun a H => ?_)
 have S := St.start w
 refine seq_list fun K1 k1 => ?_
 refine list_box H rfl S rfl rfl ?_;clear H a S;intro b3 _ a hb3 hbw3 S H
 refine list_alloc H rfl S ze_101 ?_;clear H a S;intro b6 _ a hb6 hbw6 S H
 refine ls 1 H <| sr 1 rfl <| sE ?_;clear H a;intro a H
 refine k1 _ _ ?_;clear k1 K1
 refine wp_seq_k fun K2 k2 => ?_
 refine seq_list fun K3 k3 => ?_
 refine ls 2 H <| sd ((does_loadBox agg_30 sz_30 rfl S (i := 1) rfl rfl)) <| sr 1 rfl <| sE ?_;clear H a;intro a H
 refine list_call H rfl rfl Try.func36 rfl rfl (tm_Check y l LA lc _ (hy.now S) hyb (hl.now S) hln) ?_;clear H a
 rintro _ _ a ⟨rfl, S2⟩ H
 replace S := S.call S2;clear S2
 refine ls 1 H <| sr 1 rfl <| sE ?_;clear H a;intro a H
 refine k3 _ _ ?_;clear k3 K3
 refine sS H fun K4 k4=>sr 2 rfl <| sE ?_;clear H a;intro a H
 refine k4 _ ?_;clear k4 K4
 refine condN H rfl (fun hc1 => ?_) (fun hc1 => ?_)
 ·skip
  replace H := H.keep [6, 8] rfl
  refine seq_list fun K5 k5 => ?_
  refine ls 2 H <| sd (does_build bt_101 rfl rfl) <| sr 1 rfl <| sE ?_;clear H a;intro a H
  refine list_store H S (i := 0) rfl rfl rfl rfl sz_101 rfl rfl ?_
  clear H a S;intro _ a S H
  refine ls 1 H <| sr 1 rfl <| sE ?_;clear H a;intro a H
  refine k5 _ _ ?_;clear k5 K5
  refine wp_ret ?_
  refine retA1 (fn := Try.f46) rfl H rfl agg_101 (by exact sz_101) (boxAgg S (i := 0) rfl) rfl ?_
  refine ⟨0, 0, by rw [askd_task (by omega)]; rfl, fun h => absurd h (by rw [askd_task (by omega)]; omega), (S.sel [] rfl rfl)⟩
 have hte : taskE y l = 0 := by omega
 have htk0 := task_ok hte
 have hok := year_ok htk0.1
 have htk : ∀ k, k < l.length → tskI y (l.getD k Tsk.zero) := fun k hk => tsk_in (htk0.2.2 k hk)
 refine wp_skip ?_
 refine k2 _ _ ?_
 refine wp_seq_k fun K6 k6 => ?_
 replace H := H.keep [1, 2, 3, 6] rfl
 refine sS H fun K7 k7=>sr 1 rfl <| sf fo_30_6 rfl <| sl S 1 one_27 rfl rfl rfl <| sL sl_27 rfl <| sd (does_sub rfl rfl (by unfold i64ok; omega)) <| sc rfl Try.func60 rfl rfl (tm_within _ _ _ _) <| sr 1 rfl <| sE ?_;clear H a;intro a H
 refine k7 _ ?_;clear k7 K7
 refine cond_ H rfl (fun hc2 => ?_) (fun hc2 => ?_)
 ·skip
  try simp only [o1,o2,o3,o4,o5,o6,o7,o8,o9,oa] at hc2
  replace H := H.keep [6] rfl
  refine seq_list fun K8 k8 => ?_
  refine ls 1 H <| sd (does_build bt_101 rfl rfl) <| sE ?_;clear H a;intro a H
  refine list_store H S (i := 0) rfl rfl rfl rfl sz_101 rfl rfl ?_
  clear H a S;intro _ a S H
  refine ls 1 H <| sr 1 rfl <| sE ?_;clear H a;intro a H
  refine k8 _ _ ?_;clear k8 K8
  refine wp_ret ?_
  refine retA1 (fn := Try.f46) rfl H rfl agg_101 (by exact sz_101) (boxAgg S (i := 0) rfl) rfl ?_
  refine ⟨0, 0, by rw [askd_arg hte (by omega)]; rfl, fun h => absurd h (by rw [askd_arg hte (by omega)]; decide), (S.sel [] rfl rfl)⟩
 try simp only [o1,o2,o3,o4,o5,o6,o7,o8,o9,oa] at hc2
 have hu : 0 ≤ u ∧ u ≤ (y.us.length : Int) - 1 := by first | exact hc2 | omega
 rw [show u = ((u.toNat : Nat) : Int) by omega] at H
 refine wp_skip ?_
 refine k6 _ _ ?_
 replace H := H.keep [1, 2, 3, 6] rfl
 refine seq_list fun K9 k9 => ?_
 refine ls 1 H <| sd ((does_loadBox agg_30 sz_30 rfl S (i := 1) rfl rfl)) <| sE ?_;clear H a;intro a H
 refine list_call H rfl rfl Try.func37 rfl rfl (tm_open y _) ?_;clear H a
 rintro _ _ a ⟨cb, bl, bs, bk, rfl, S2⟩ H
 replace S := S.call S2;clear S2
 refine ls 2 H <| sr 2 rfl <| sE ?_;clear H a;intro a H
 refine list_call H rfl rfl Try.func64 rfl rfl (cal_life y cb bl bs bk u.toNat l LA lc _ _ ((S.sel [0, 1, 2, 3] rfl rfl).startR) (hy.nowR (S.sel [0, 1, 2, 3] rfl rfl)) hyb hok (by omega) (hl.nowR (S.sel [0, 1, 2, 3] rfl rfl)) hln htk) ?_;clear H a
 rintro _ _ a ⟨rfl, S2⟩ H
 replace S := St.callR (M := [_, _, _, _]) (S.sel [0, 1, 2, 3, 4, 5] rfl rfl) S2;clear S2
 refine list_store H S (i := 4) rfl rfl rfl rfl sz_101 rfl rfl ?_
 clear H a S;intro _ a S H
 refine ls 1 H <| sr 1 rfl <| sE ?_;clear H a;intro a H
 refine k9 _ _ ?_;clear k9 K9
 refine wp_ret ?_
 refine retA1 (fn := Try.f46) rfl H rfl agg_101 (by exact sz_101) (boxAgg S (i := 4) rfl) rfl ?_
 refine ⟨_, _, by rw [askd_ok hte hu]; rfl, fun h => ⟨rfl, rfl⟩, (S.sel [] rfl rfl)⟩

theorem tm_Due (y : Yr) (u : Int) (w : World) (hy : YIn w noF y) (hyb : YBd y) :
    Calls Try.prog 16 [.agg [.int .i64 y.days, .int .i64 y.pl, .slice y.PA y.ps.length y.pc, .slice y.XA y.xs.length y.xc, .slice y.BA y.pe.length y.bc, .int .i64 y.limit, .bool y.help, .slice y.QA y.prs.length y.qc, .slice y.VA y.us.length y.vc, .int .i64 y.crew, .slice y.SA y.sps.length y.sc].toArray, .int .i64 u].toArray w (Ret (fun v w' => v = .tuple #[.int .i64 (dueN y u), .int .i64 (askdE y [] u)] ∧ St w noF [] w')) := by
 refine enter Try.func16 rfl Try.ntmps16 rfl (fun a H => ?_)
 have S := St.start w
 refine seq_list fun K1 k1 => ?_
 refine list_box H rfl S rfl rfl ?_;clear H a S;intro b2 _ a hb2 hbw2 S H
 refine ls 2 H <| sr 2 rfl <| sE ?_;clear H a;intro a H
 refine k1 _ _ ?_;clear k1 K1
 replace H := H.keep [1, 2, 4] rfl
 refine seq_list fun K2 k2 => ?_
 refine ls 2 H <| sd ((does_loadBox agg_30 sz_30 rfl S (i := 0) rfl rfl)) <| sr 1 rfl <| sE ?_;clear H a;intro a H
 refine list_call H rfl rfl Try.func46 rfl rfl (tm_asked y [] none 0 u _ (hy.now S) hyb InS.nil (Nat.zero_le _)) ?_;clear H a
 rintro _ _ a ⟨a9, b9, rfl, hab, S2⟩ H
 replace S := S.call S2;clear S2
 refine ls 3 H <| sr 3 rfl <| sE ?_;clear H a;intro a H
 refine list_alloc H rfl S ze_101 ?_;clear H a S;intro b6 _ a hb6 hbw6 S H
 refine list_store H S (i := 0) rfl rfl rfl rfl sz_101 rfl rfl ?_
 clear H a S;intro _ a S H
 refine ls 1 H <| sr 1 rfl <| sE ?_;clear H a;intro a H
 refine k2 _ _ ?_;clear k2 K2
 refine wp_seq_k fun K3 k3 => ?_
 replace H := H.keep [2, 4, 5, 6] rfl
 refine sS H fun K4 k4=>sr 2 rfl <| sE ?_;clear H a;intro a H
 refine k4 _ ?_;clear k4 K4
 refine condN H rfl (fun hc1 => ?_) (fun hc1 => ?_)
 ·skip
  refine sS H fun K5 k5=>sr 3 rfl <| sE ?_;clear H a;intro a H
  refine k5 _ ?_;clear k5 K5
  refine wp_ret ?_
  refine ret2 (fn := Try.f16) rfl H rfl rfl ?_
  rw [show dueN y u = 0 by unfold dueN; rw [if_pos hc1]]
  exact ⟨rfl, (S.sel [] rfl rfl)⟩
 have hz : askdE y [] u = 0 := by omega
 obtain ⟨ha9, hb9⟩ := hab hz
 subst ha9; subst hb9
 have hok := year_ok (task_ok (askd_zero hz).1).1
 have hdy := hok.days
 have hD : ((y.days.toNat : Nat) : Int) = y.days := by omega
 refine wp_skip ?_
 refine k3 _ _ ?_
 refine wp_seq_k fun K6 k6 => ?_
 refine wp_block ?_
 refine loop_st (X := Nat) (R0 := _) [2, 6] H rfl (fun d => [(4, .int .i64 (d : Int))]) (fun d => []) (fun g d => d ≤ y.days.toNat ∧ g + d = y.days.toNat ∧ ∀ q, q < d → runsY y [] u.toNat q = true) (y.days.toNat) 0 ?_ (S.sel [0, 1] rfl rfl) (H.keep [4, 2, 6] rfl) ?_
 · exact ⟨by omega, by omega, fun q hq => absurd hq (Nat.not_lt_zero q)⟩
 clear H S a
 intro g1 x1 a w1 hp S H K7 k7
 obtain ⟨d, rfl⟩ : ∃ y, y = x1 := ⟨_, rfl⟩
 refine wp_seq_k fun K8 k8 => ?_
 replace H := H.keep [2, 4, 6] rfl
 refine sS H fun K9 k9=>sr 1 rfl <| sf fo_30_0 rfl <| sl S 1 one_3 rfl rfl rfl <| sr 2 rfl <| sg 6 4 20 26 true rfl rfl (fun hg5 => by
     have hq5 := hg5;try simp only [o1,o2,o3,o4,o5,o6,o7,o8,o9,oa] at hq5
     exact sy hg5 <| sf fo_101_0 rfl <| sy hg5 <| sl S 0 one_3 rfl rfl rfl <| sy hg5 <| sr 1 rfl <| sy hg5 <| sd (does_shr rfl rfl (by omega) (by omega)) <| sy hg5 <| sd (does_and1 rfl rfl) <| sy hg5 <| sr 1 rfl <| sz 6 rfl rfl rfl) <| sa rfl rfl rfl <| sE ?_;clear H a;intro a H
 refine k9 _ ?_;clear k9 K9
 refine cond_ H rfl (fun hc2 => ?_) (fun hc2 => ?_)
 ·skip
  try simp only [o1,o2,o3,o4,o5,o6,o7,o8,o9,oa] at hc2
  refine wp_skip ?_
  refine k8 _ _ ?_
  refine wp_block ?_
  replace H := H.keep [2, 4, 6] rfl
  refine sO H <| sr 1 rfl <| sd (does_add rfl rfl (by unfold i64ok; omega)) <| sr 1 rfl <| sE ?_;clear H a;intro a H
  exact k7 (g1 - 1) (d + 1) a _ (by omega) (⟨by omega, by omega, all_next (f := runsY y [] u.toNat) hp.2.2 (bit1_t (show d < y.days.toNat by omega) hc2.2)⟩) (S.sel [0, 1] rfl rfl) (H.keep [4, 2, 6] rfl)
 try simp only [o1,o2,o3,o4,o5,o6,o7,o8,o9,oa] at hc2
 refine wp_exit ?_
 refine k6 _ _ ?_
 refine sS H fun K11 k11=>sr 3 rfl <| sE ?_;clear H a;intro a H
 refine k11 _ ?_;clear k11 K11
 refine wp_ret ?_
 refine ret2 (fn := Try.f16) rfl H rfl rfl ?_
 have he : dueN y u = d := by
   unfold dueN
   rw [if_neg (by omega)]
   by_cases e : d < y.days.toNat
   · exact fst_at (fun q hq => by rw [hp.2.2 q hq]; rfl) (by rw [show runsY y [] u.toNat d = false from bit1_f e (hc2.resolve_left (by omega))]; rfl) e
   · rw [fst_none (fun q hq => by rw [hp.2.2 q (by omega)]; rfl)]; omega
 rw [he, hz]
 exact ⟨rfl, (S.sel [] rfl rfl)⟩

end Go.Proofs.Ytopmadlgolnmfaa
