/- TrA. Printed by gen.py. -/
import Derived.Test.YtopmadlgolnmfaaTmB
import Derived.Test.YtopmadlgolnmfaaRfC
namespace Go.Proofs.Ytopmadlgolnmfaa
open Go.RowKit
set_option linter.unusedVariables false
set_option linter.unusedSimpArgs false
set_option maxRecDepth 100000
set_option maxHeartbeats 4000000


open Classical in
noncomputable def yrB (y : Yr) : Bool := if yrI y then true else false
theorem yrB_t {y : Yr} (h : yrI y) : yrB y = true := by unfold yrB; rw [if_pos h]
theorem yrB_f {y : Yr} (h : ¬ yrI y) : yrB y = false := by unfold yrB; rw [if_neg h]
theorem yrB_iff {y : Yr} : yrB y = true ↔ yrI y := ⟨fun h => Classical.byContradiction (fun h2 => by rw [yrB_f h2] at h; cases h), yrB_t⟩
theorem lvE_iff {pl : Int} {ps : List Psg} {xs pe : List Int} {T : Int} (h : stE pl ps xs = 0) : leaveE pl ps xs 0 pe T = 0 ↔ ((pe.length : Int) = pl ∧ ∀ k, k < pe.length → 0 ≤ pe.getD k 0 ∧ pe.getD k 0 ≤ 1000) ∧ (0 ≤ T ∧ T ≤ 60) := by
  constructor
  · intro h1
    obtain ⟨_, _, h2, h3⟩ := leaveE_ok h1
    have h4 := crowd_ok h2
    exact ⟨⟨h4.2, h4.1⟩, h3⟩
  · rintro ⟨⟨h1, h2⟩, h3⟩
    unfold leaveE
    rw [if_neg (by omega), if_pos]
    have h4 : crowdOk pl pe = true := by unfold crowdOk; rw [decide_eq_true h1, Bool.and_true, allN_iff]; exact fun k hk => decide_eq_true (h2 k hk)
    rw [h4, decide_eq_true h3]
    rfl
theorem freeN_us {ps : List Psg} {us : List Unt} {n i : Nat} {m : Int} : freeN ps us n (i + 1) m = (freeN ps us n i m && !decide ((us.getD i Unt.zero).mach = m)) := by
  unfold freeN
  simp only [allN, Bool.and_assoc]
theorem refO_wear {p : Part} {l : List Use} (h : checkP p l = 0) : wearE p l = 0 ↔ (refO p l).2.1 = false := by
  unfold refO
  rw [if_neg (by omega)]
  constructor
  · intro h1
    rw [if_neg (by rw [atN_eq (wearE_zero h1).2]; omega)]
  · intro h1
    split at h1
    · cases h1
    · exact wearE_ok h (atN_all.2 (by have := (atN_is p l).le; omega))
theorem prevD_pos {l : List Use} {o : Int} (h0 : 0 ≤ o) (h : ¬ (0 < l.length ∧ o < (l.getD ((l.length : Int) - 1).toNat Use.zero).day)) : prevD l l.length ≤ o := by
  rcases Nat.eq_zero_or_pos l.length with e | e
  · rw [e]; exact h0
  · have h1 := prevD_last (l := l) (k := ((l.length : Int) - 1).toNat) (by omega)
    omega
theorem prevD_neg {l : List Use} {o : Int} (e : 0 < l.length) (h : o < (l.getD ((l.length : Int) - 1).toNat Use.zero).day) : o < prevD l l.length := by
  have h1 := prevD_last (l := l) (k := ((l.length : Int) - 1).toNat) (by omega)
  omega


theorem rt_from (n lo hi : Int) (w : World) :
    Calls Try.prog 33 [.int .i64 n, .int .i64 lo, .int .i64 hi].toArray w (Ret (fun v w' => v = .bool (decide (lo ≤ n) && decide (n ≤ hi)) ∧ w' = w)) := by
 refine enter Try.func33 rfl Try.ntmps33 rfl (fun a H => ?_)
 have S := St.start w
 refine sS H fun K1 k1=>sr 1 rfl <| sE ?_;clear H a;intro a H
 refine k1 _ ?_;clear k1 K1
 replace H := H.keep [0, 1, 2] rfl
 refine sS H fun K2 k2=>sr 4 rfl <| sg 3 3 10 13 true rfl rfl (fun hg4 => sy hg4 <| sr 1 rfl <| sy hg4 <| sr 1 rfl <| sy hg4 <| sr 1 rfl <| sz 3 rfl rfl rfl) <| sa rfl rfl rfl <| sr 1 rfl <| sE ?_;clear H a;intro a H
 refine k2 _ ?_;clear k2 K2
 refine wp_ret ?_
 refine ret1 (fn := Try.f33) rfl H rfl ?_
 exact ⟨rfl, rfl⟩

theorem rt_before (a b : Tsk) (w : World) :
    Calls Try.prog 34 [.agg [.int .i64 a.day, .int .i64 a.unit, .int .i64 a.kind].toArray, .agg [.int .i64 b.day, .int .i64 b.unit, .int .i64 b.kind].toArray].toArray w (Ret (fun v w' => v = .bool (befB a b) ∧ St w noF [] w')) := by
 refine enter Try.func34 rfl Try.ntmps34 rfl (fun a H => ?_)
 have S := St.start w
 refine seq_list fun K1 k1 => ?_
 refine list_box H rfl S rfl rfl ?_;clear H a S;intro b2 _ a hb2 hbw2 S H
 refine list_box H rfl S rfl rfl ?_;clear H a S;intro b3 _ a hb3 hbw3 S H
 refine ls 1 H <| sr 1 rfl <| sE ?_;clear H a;intro a H
 refine k1 _ _ ?_;clear k1 K1
 refine wp_seq_k fun K2 k2 => ?_
 refine sS H fun K3 k3=>sf fo_48_0 rfl <| sl S 1 one_3 rfl rfl rfl <| sf fo_48_0 rfl <| sl S 0 one_3 rfl rfl rfl <| sr 1 rfl <| sE ?_;clear H a;intro a H
 refine k3 _ ?_;clear k3 K3
 refine condN H rfl (fun hc1 => ?_) (fun hc1 => ?_)
 ·skip
  replace H := H.keep [2, 3] rfl
  refine sS H fun K4 k4=>sf fo_48_0 rfl <| sl S 1 one_3 rfl rfl rfl <| sf fo_48_0 rfl <| sl S 0 one_3 rfl rfl rfl <| sr 2 rfl <| sE ?_;clear H a;intro a H
  refine k4 _ ?_;clear k4 K4
  refine wp_ret ?_
  refine ret1 (fn := Try.f34) rfl H rfl ?_
  refine ⟨?_, (S.sel [] rfl rfl)⟩; unfold befB; rw [if_pos hc1]
 refine wp_skip ?_
 refine k2 _ _ ?_
 refine wp_seq_k fun K5 k5 => ?_
 replace H := H.keep [2, 3] rfl
 refine sS H fun K6 k6=>sf fo_48_1 rfl <| sl S 1 one_3 rfl rfl rfl <| sf fo_48_1 rfl <| sl S 0 one_3 rfl rfl rfl <| sr 1 rfl <| sE ?_;clear H a;intro a H
 refine k6 _ ?_;clear k6 K6
 refine condN H rfl (fun hc2 => ?_) (fun hc2 => ?_)
 ·skip
  replace H := H.keep [2, 3] rfl
  refine sS H fun K7 k7=>sf fo_48_1 rfl <| sl S 1 one_3 rfl rfl rfl <| sf fo_48_1 rfl <| sl S 0 one_3 rfl rfl rfl <| sr 2 rfl <| sE ?_;clear H a;intro a H
  refine k7 _ ?_;clear k7 K7
  refine wp_ret ?_
  refine ret1 (fn := Try.f34) rfl H rfl ?_
  refine ⟨?_, (S.sel [] rfl rfl)⟩; unfold befB; rw [if_neg (fun h => h (by omega)), if_pos hc2]
 refine wp_skip ?_
 refine k5 _ _ ?_
 replace H := H.keep [2, 3] rfl
 refine sS H fun K8 k8=>sf fo_48_2 rfl <| sl S 1 one_3 rfl rfl rfl <| sf fo_48_2 rfl <| sl S 0 one_3 rfl rfl rfl <| sr 2 rfl <| sE ?_;clear H a;intro a H
 refine k8 _ ?_;clear k8 K8
 refine wp_ret ?_
 refine ret1 (fn := Try.f34) rfl H rfl ?_
 refine ⟨?_, (S.sel [] rfl rfl)⟩; unfold befB; rw [if_neg (fun h => h (by omega)), if_neg (fun h => h (by omega))]

theorem rt_isYear (y : Yr) (w : World) (hy : YIn w noF y) (hyb : YBd y) (hst : stE y.pl y.ps y.xs = 0) :
    Calls Try.prog 49 [.agg [.int .i64 y.days, .int .i64 y.pl, .slice y.PA y.ps.length y.pc, .slice y.XA y.xs.length y.xc, .slice y.BA y.pe.length y.bc, .int .i64 y.limit, .bool y.help, .slice y.QA y.prs.length y.qc, .slice y.VA y.us.length y.vc, .int .i64 y.crew, .slice y.SA y.sps.length y.sc].toArray].toArray w (Ret (fun v w' => v = .bool (yrB y) ∧ St w noF [] w')) := by
 have hlv := lvE_iff (pe := y.pe) (T := y.limit) hst; have hn4 := hyb.spn
 refine enter Try.func49 rfl Try.ntmps49 rfl (fun a H => ?_)
 have S := St.start w
 refine seq_list fun K1 k1 => ?_
 refine list_box H rfl S rfl rfl ?_;clear H a S;intro b1 _ a hb1 hbw1 S H
 refine ls 1 H <| sr 1 rfl <| sE ?_;clear H a;intro a H
 refine k1 _ _ ?_;clear k1 K1
 refine wp_seq_k fun K2 k2 => ?_
 replace H := H.keep [1] rfl
 refine seq_list fun K3 k3 => ?_
 refine ls 2 H <| sf fo_30_0 rfl <| sl S 0 one_3 rfl rfl rfl <| sE ?_;clear H a;intro a H
 refine list_call H rfl rfl Try.func33 rfl rfl (rt_from _ _ _ _) ?_;clear H a
 rintro _ _ a ⟨rfl, rfl⟩ H
 refine ls 2 H <| sr 2 rfl <| sE ?_;clear H a;intro a H
 apply list_guard (i := 4) (g := 9) (t := 17) (b := false) 8 H S rfl rfl (by kernel_rfl) (by kernel_rfl) rfl rfl
 case h1 =>
  intro hg5
  refine ls 6 H <| sy hg5 <| sf fo_30_1 rfl <| sy hg5 <| sd ((does_loadBox agg_25 sz_25 rfl S (i := 0) rfl rfl)) <| sy hg5 <| sf fo_30_2 rfl <| sy hg5 <| sl S 0 one_23 rfl rfl rfl <| sy hg5 <| sf fo_30_3 rfl <| sy hg5 <| sl S 0 one_3 rfl rfl rfl <| sE ?_;intro a H
  refine list_yes' H rfl rfl (by assumption) ?_
  refine list_call H rfl rfl Try.func58 rfl rfl (ref_CheckLeave y.pl y.ps y.PA y.pc y.xs y.XA y.xc 0 y.pe y.BA y.bc y.limit _ (hy.ps.now S) hyb.psn (hy.xs.now S) hyb.xsn (hy.pe.now S) hyb.pen) ?_
  rintro _ _ a ⟨rfl, S2⟩ H
  replace S := S.call S2;clear S2
  refine ls 1 H <| sy hg5 <| sr 1 rfl <| sE ?_;intro a H
  exact wpList_nil ⟨H.strip 8 rfl rfl, (S.sel [0] rfl rfl)⟩
 clear H a S;intro a _ H S
 refine ls 13 H <| so rfl rfl rfl <| sr 1 rfl <| sg 4 14 19 23 false rfl rfl (fun hg15 => sy hg15 <| sf fo_30_7 rfl <| sy hg15 <| sl S 0 one_3 rfl rfl rfl <| sy hg15 <| sc rfl Try.func33 rfl rfl (rt_from _ _ _ _) <| sy hg15 <| sr 1 rfl <| sz 4 rfl rfl rfl) <| so rfl rfl rfl <| sr 1 rfl <| sg 4 20 25 29 false rfl rfl (fun hg21 => sy hg21 <| sf fo_30_8 rfl <| sy hg21 <| sl S 0 one_28 rfl rfl rfl <| sy hg21 <| sL sl_28 rfl <| sy hg21 <| sr 1 rfl <| sz 4 rfl rfl rfl) <| so rfl rfl rfl <| sE ?_;clear H a;intro a H
 refine k3 _ _ ?_;clear k3 K3
 refine cond_ H rfl (fun hc1 => ?_) (fun hc1 => ?_)
 ·skip
  try simp only [o1,o2,o3,o4,o5,o6,o7,o8,o9,oa] at hc1
  replace H := H.keep [] rfl
  refine sS H fun K4 k4=>sr 1 rfl <| sE ?_;clear H a;intro a H
  refine k4 _ ?_;clear k4 K4
  refine wp_ret ?_
  refine ret1 (fn := Try.f49) rfl H rfl ?_
  rw [yrB_f (fun h => by unfold yrI at h; have h9 := hlv.2 ⟨h.2.1, h.2.2.1⟩; omega)]; exact ⟨rfl, (S.sel [] rfl rfl)⟩
 try simp only [o1,o2,o3,o4,o5,o6,o7,o8,o9,oa] at hc1
 refine wp_skip ?_
 refine k2 _ _ ?_
 refine wp_seq_k fun K5 k5 => ?_
 refine sS H fun K6 k6=>sr 1 rfl <| sE ?_;clear H a;intro a H
 refine k6 _ ?_;clear k6 K6
 refine wp_block ?_
 refine loop_st (X := Nat) (R0 := _) [1] H rfl (fun k => [(3, .int .i64 (k : Int))]) (fun k => []) (fun g k => k ≤ y.sps.length ∧ g + k = y.sps.length ∧ ∀ q, q < k → sprB y.days (y.sps.getD q Spr.zero) = true) (y.sps.length) 0 ?_ (S.sel [0] rfl rfl) (H.keep [3, 1] rfl) ?_
 · exact ⟨by omega, by omega, fun q hq => absurd hq (Nat.not_lt_zero q)⟩
 clear H S a
 intro g1 x1 a w1 hp S H K7 k7
 obtain ⟨k, rfl⟩ : ∃ y, y = x1 := ⟨_, rfl⟩
 refine wp_seq_k fun K8 k8 => ?_
 refine sS H fun K9 k9=>sr 1 rfl <| sf fo_30_8 rfl <| sl S 0 one_28 rfl rfl rfl <| sL sl_28 rfl <| sr 1 rfl <| sE ?_;clear H a;intro a H
 refine k9 _ ?_;clear k9 K9
 refine condL H rfl (fun hc2 => ?_) (fun hc2 => ?_)
 ·skip
  refine wp_skip ?_
  refine k8 _ _ ?_
  refine wp_seq_k fun K10 k10 => ?_
  refine wp_block ?_
  replace H := H.keep [1, 3] rfl
  refine seq_list fun K11 k11 => ?_
  refine ls 5 H <| sf fo_30_8 rfl <| sl S 0 one_28 rfl rfl rfl <| sr 1 rfl <| si sl_28 sz_123 rfl rfl (hy.sps.adr (by omega)) (by omega) <| sd ((does_loadIn agg_123 sz_123 rfl S hy.sps (by omega) (by omega))) <| sE ?_;clear H a;intro a H
  refine list_alloc H rfl S ze_123 ?_;clear H a S;intro b4 _ a hb4 hbw4 S H
  refine list_store H S (i := 0) rfl rfl rfl rfl sz_123 rfl rfl ?_
  clear H a S;intro _ a S H
  refine k11 _ _ ?_;clear k11 K11
  replace H := H.keep [1, 3, 4] rfl
  refine sS H fun K12 k12=>sf fo_123_0 rfl <| sl S 0 one_3 rfl rfl rfl <| sf fo_30_0 rfl <| sl S 1 one_3 rfl rfl rfl <| sd (does_sub rfl rfl (by unfold i64ok; omega)) <| sc rfl Try.func33 rfl rfl (rt_from _ _ _ _) <| sr 2 rfl <| sg 4 7 50 54 false rfl rfl (fun hg8 => sy hg8 <| sf fo_123_1 rfl <| sy hg8 <| sl S 0 one_3 rfl rfl rfl <| sy hg8 <| sc rfl Try.func33 rfl rfl (rt_from _ _ _ _) <| sy hg8 <| sr 1 rfl <| sz 4 rfl rfl rfl) <| so rfl rfl rfl <| sr 1 rfl <| sg 4 13 56 60 false rfl rfl (fun hg14 => sy hg14 <| sf fo_123_2 rfl <| sy hg14 <| sl S 0 one_3 rfl rfl rfl <| sy hg14 <| sc rfl Try.func33 rfl rfl (rt_from _ _ _ _) <| sy hg14 <| sr 1 rfl <| sz 4 rfl rfl rfl) <| so rfl rfl rfl <| sE ?_;clear H a;intro a H
  refine k12 _ ?_;clear k12 K12
  refine cond_ H rfl (fun hc3 => ?_) (fun hc3 => ?_)
  ·skip
   try simp only [o1,o2,o3,o4,o5,o6,o7,o8,o9,oa] at hc3
   replace H := H.keep [] rfl
   refine sS H fun K13 k13=>sr 1 rfl <| sE ?_;clear H a;intro a H
   refine k13 _ ?_;clear k13 K13
   refine wp_ret ?_
   refine ret1 (fn := Try.f49) rfl H rfl ?_
   rw [yrB_f (fun h => by have h9 := sprB_iff.1 (h.2.2.2.2.2 k (by omega)); omega)]; exact ⟨rfl, (S.sel [] rfl rfl)⟩
  try simp only [o1,o2,o3,o4,o5,o6,o7,o8,o9,oa] at hc3
  refine wp_skip ?_
  refine k10 _ _ ?_
  refine sO H <| sr 1 rfl <| sd (does_add rfl rfl (by unfold i64ok; omega)) <| sr 1 rfl <| sE ?_;clear H a;intro a H
  exact k7 (g1 - 1) (k + 1) a _ (by omega) (⟨by omega, by omega, all_next (f := fun q => sprB y.days (y.sps.getD q Spr.zero)) hp.2.2 (sprB_iff.2 (by omega))⟩) (S.sel [1] rfl rfl) (H.keep [3, 1] rfl)
 refine wp_exit ?_
 refine k5 _ _ ?_
 refine sS H fun K15 k15=>sr 1 rfl <| sE ?_;clear H a;intro a H
 refine k15 _ ?_;clear k15 K15
 refine wp_ret ?_
 refine ret1 (fn := Try.f49) rfl H rfl ?_
 have h9 := hlv.1 (by omega)
 have h8 := hp.2.2
 rw [yrB_t (by unfold yrI; exact ⟨by omega, h9.1, h9.2, by omega, by omega, fun q hq => h8 q (by omega)⟩)]; exact ⟨rfl, (S.sel [] rfl rfl)⟩

theorem rt_isUnit (y : Yr) (i : Nat) (w : World) (hy : YIn w noF y) (hyb : YBd y) (hi : i < y.us.length) :
    Calls Try.prog 50 [.agg [.int .i64 y.days, .int .i64 y.pl, .slice y.PA y.ps.length y.pc, .slice y.XA y.xs.length y.xc, .slice y.BA y.pe.length y.bc, .int .i64 y.limit, .bool y.help, .slice y.QA y.prs.length y.qc, .slice y.VA y.us.length y.vc, .int .i64 y.crew, .slice y.SA y.sps.length y.sc].toArray, .int .i64 (i : Int)].toArray w (Ret (fun v w' => v = .bool (untB y.ps y.us i) ∧ St w noF [] w')) := by
 have hn1 := hyb.psn; have hn3 := hyb.usn; have hn5 : (y.us.getD i Unt.zero).uses.length ≤ 9223372036854775807 := hyb.uln hi; have hn6 : (y.us.getD i Unt.zero).rates.length ≤ 9223372036854775807 := hyb.rtn hi
 refine enter Try.func50 rfl Try.ntmps50 rfl (fun a H => ?_)
 have S := St.start w
 refine seq_list fun K1 k1 => ?_
 refine list_box H rfl S rfl rfl ?_;clear H a S;intro b2 _ a hb2 hbw2 S H
 refine ls 1 H <| sr 1 rfl <| sE ?_;clear H a;intro a H
 refine k1 _ _ ?_;clear k1 K1
 refine seq_list fun K2 k2 => ?_
 refine ls 5 H <| sf fo_30_6 rfl <| sl S 0 one_27 rfl rfl rfl <| sr 1 rfl <| si sl_27 sz_65 rfl rfl (hy.us.adr (by omega)) (by omega) <| sd ((does_loadIn agg_65 sz_65 rfl S hy.us (by omega) (by omega))) <| sE ?_;clear H a;intro a H
 refine list_alloc H rfl S ze_65 ?_;clear H a S;intro b5 _ a hb5 hbw5 S H
 refine list_store H S (i := 0) rfl rfl rfl rfl sz_65 rfl rfl ?_
 clear H a S;intro _ a S H
 refine k2 _ _ ?_;clear k2 K2
 replace H := H.keep [1, 2, 5] rfl
 refine sS H fun K3 k3=>sr 1 rfl <| sE ?_;clear H a;intro a H
 refine k3 _ ?_;clear k3 K3
 refine wp_seq_k fun K4 k4 => ?_
 refine sS H fun K5 k5=>sr 1 rfl <| sE ?_;clear H a;intro a H
 refine k5 _ ?_;clear k5 K5
 refine wp_block ?_
 refine loop_st (X := Nat) (R0 := _) [1, 2, 5] H rfl (fun k => [(6, .bool (freeN y.ps y.us k 0 (y.us.getD i Unt.zero).mach)), (7, .int .i64 (k : Int))]) (fun k => []) (fun g k => k ≤ y.ps.length ∧ g + k = y.ps.length) (y.ps.length) 0 ?_ (S.sel [0, 1] rfl rfl) (H.keep [6, 7, 1, 2, 5] rfl) ?_
 · exact ⟨by omega, by omega⟩
 clear H S a
 intro g1 x1 a w1 hp S H K6 k6
 obtain ⟨k, rfl⟩ : ∃ y, y = x1 := ⟨_, rfl⟩
 refine wp_seq_k fun K7 k7 => ?_
 refine sS H fun K8 k8=>sr 1 rfl <| sf fo_30_1 rfl <| sf fo_25_1 rfl <| sl S 1 one_22 rfl rfl rfl <| sL sl_22 rfl <| sr 1 rfl <| sE ?_;clear H a;intro a H
 refine k8 _ ?_;clear k8 K8
 refine condL H rfl (fun hc1 => ?_) (fun hc1 => ?_)
 ·skip
  refine wp_skip ?_
  refine k7 _ _ ?_
  refine wp_seq_k fun K9 k9 => ?_
  refine wp_block ?_
  replace H := H.keep [1, 2, 5, 6, 7] rfl
  refine seq_list fun K10 k10 => ?_
  refine ls 6 H <| sf fo_30_1 rfl <| sf fo_25_1 rfl <| sl S 1 one_22 rfl rfl rfl <| sr 1 rfl <| si sl_22 sz_128 rfl rfl (hy.ps.adr (by omega)) (by omega) <| sd ((does_loadIn agg_128 sz_128 rfl S hy.ps (by omega) (by omega))) <| sE ?_;clear H a;intro a H
  refine list_alloc H rfl S ze_128 ?_;clear H a S;intro b8 _ a hb8 hbw8 S H
  refine list_store H S (i := 0) rfl rfl rfl rfl sz_128 rfl rfl ?_
  clear H a S;intro _ a S H
  refine k10 _ _ ?_;clear k10 K10
  replace H := H.keep [1, 2, 5, 6, 7, 8] rfl
  refine sO H <| sr 2 rfl <| sg 10 1 33 43 false rfl rfl (fun hg2 => by
      have hq2 := hg2;try simp only [o1,o2,o3,o4,o5,o6,o7,o8,o9,oa] at hq2
      exact sy hg2 <| sf fo_128_5 rfl <| sy hg2 <| sl S 0 one_3 rfl rfl rfl <| sy hg2 <| sr 1 rfl <| sy hg2 <| sr 1 rfl <| sg 5 5 37 42 true rfl rfl (fun hg6 => by
           have hq6 := hg6;try simp only [o1,o2,o3,o4,o5,o6,o7,o8,o9,oa] at hq6
           exact sy hg6 <| sf fo_128_5 rfl <| sy hg6 <| sl S 0 one_3 rfl rfl rfl <| sy hg6 <| sf fo_65_0 rfl <| sy hg6 <| sl S 1 one_3 rfl rfl rfl <| sy hg6 <| sr 1 rfl <| sz 5 rfl rfl rfl) <| sy hg2 <| sa rfl rfl rfl <| sz 6 rfl rfl rfl) <| so rfl rfl rfl <| sr 1 rfl <| sE ?_;clear H a;intro a H
  refine k9 _ _ ?_
  replace H := H.keep [1, 2, 5, 6, 7] rfl
  refine sO H <| sr 1 rfl <| sd (does_add rfl rfl (by unfold i64ok; omega)) <| sr 1 rfl <| sE ?_;clear H a;intro a H
  rw [← freeN_ps (ps := y.ps) (us := y.us)] at H
  exact k6 (g1 - 1) (k + 1) a _ (by omega) (⟨by omega, by omega⟩) (S.sel [1, 2] rfl rfl) (H.keep [6, 7, 1, 2, 5] rfl)
 refine wp_exit ?_
 refine k4 _ _ ?_
 refine wp_seq_k fun K13 k13 => ?_
 refine sS H fun K14 k14=>sr 1 rfl <| sE ?_;clear H a;intro a H
 refine k14 _ ?_;clear k14 K14
 refine wp_block ?_
 obtain rfl : k = y.ps.length := by omega
 refine loop_st (X := Nat) (R0 := _) [1, 2, 5] H rfl (fun k => [(6, .bool (freeN y.ps y.us y.ps.length k (y.us.getD i Unt.zero).mach)), (9, .int .i64 (k : Int))]) (fun k => []) (fun g k => k ≤ i ∧ g + k = i) (i) 0 ?_ (S.sel [0, 1] rfl rfl) (H.keep [6, 9, 1, 2, 5] rfl) ?_
 · exact ⟨by omega, by omega⟩
 clear H S a
 intro g2 x2 a w2 hp S H K15 k15
 obtain ⟨k, rfl⟩ : ∃ y, y = x2 := ⟨_, rfl⟩
 refine wp_seq_k fun K16 k16 => ?_
 refine sS H fun K17 k17=>sr 3 rfl <| sE ?_;clear H a;intro a H
 refine k17 _ ?_;clear k17 K17
 refine condL H rfl (fun hc2 => ?_) (fun hc2 => ?_)
 ·skip
  refine wp_skip ?_
  refine k16 _ _ ?_
  refine wp_seq_k fun K18 k18 => ?_
  refine wp_block ?_
  replace H := H.keep [1, 2, 5, 6, 9] rfl
  replace S := S.drew
  refine sP H <| sr 2 rfl <| sg 9 1 51 60 true rfl rfl (fun hg2 => by
      have hq2 := hg2;try simp only [o1,o2,o3,o4,o5,o6,o7,o8,o9,oa] at hq2
      exact sy hg2 <| sf fo_30_6 rfl <| sy hg2 <| sl S 1 one_27 rfl rfl rfl <| sy hg2 <| sr 1 rfl <| sy hg2 <| si sl_27 sz_65 rfl rfl (hy.us.adr (by omega)) (by omega) <| sy hg2 <| sp fo_65_0 rfl <| sy hg2 <| slm one_3 rfl (hy.us.rd S (by omega) (by omega)) <| sy hg2 <| sf fo_65_0 rfl <| sy hg2 <| sl S 0 one_3 rfl rfl rfl <| sy hg2 <| sr 1 rfl <| sz 9 rfl rfl rfl) <| sa rfl rfl rfl <| sr 1 rfl <| sE ?_;clear H a;intro a H
  refine k18 _ _ ?_
  replace H := H.keep [1, 2, 5, 6, 9] rfl
  refine sO H <| sr 1 rfl <| sd (does_add rfl rfl (by unfold i64ok; omega)) <| sr 1 rfl <| sE ?_;clear H a;intro a H
  rw [← freeN_us (ps := y.ps) (us := y.us)] at H
  exact k15 (g2 - 1) (k + 1) a _ (by omega) (⟨by omega, by omega⟩) (S.sel [0, 1] rfl rfl) (H.keep [6, 9, 1, 2, 5] rfl)
 refine wp_exit ?_
 refine k13 _ _ ?_
 refine wp_seq_k fun K21 k21 => ?_
 obtain rfl : i = k := by omega
 replace H := H.keep [5, 6] rfl
 refine seq_list fun K22 k22 => ?_
 refine ls 21 H <| sr 3 rfl <| sg 4 2 64 68 false rfl rfl (fun hg3 => by
     have hq3 := hg3;try simp only [o1,o2,o3,o4,o5,o6,o7,o8,o9,oa] at hq3
     exact sy hg3 <| sf fo_65_1 rfl <| sy hg3 <| sl S 0 one_3 rfl rfl rfl <| sy hg3 <| sc rfl Try.func33 rfl rfl (rt_from _ _ _ _) <| sy hg3 <| sr 1 rfl <| sz 4 rfl rfl rfl) <| so rfl rfl rfl <| sr 1 rfl <| sg 4 8 70 74 false rfl rfl (fun hg9 => by
     have hq9 := hg9;try simp only [o1,o2,o3,o4,o5,o6,o7,o8,o9,oa] at hq9
     exact sy hg9 <| sf fo_65_2 rfl <| sy hg9 <| sl S 0 one_3 rfl rfl rfl <| sy hg9 <| sc rfl Try.func33 rfl rfl (rt_from _ _ _ _) <| sy hg9 <| sr 1 rfl <| sz 4 rfl rfl rfl) <| so rfl rfl rfl <| sr 1 rfl <| sg 4 14 76 80 false rfl rfl (fun hg15 => by
     have hq15 := hg15;try simp only [o1,o2,o3,o4,o5,o6,o7,o8,o9,oa] at hq15
     exact sy hg15 <| sf fo_65_8 rfl <| sy hg15 <| sl S 0 one_3 rfl rfl rfl <| sy hg15 <| sc rfl Try.func33 rfl rfl (rt_from _ _ _ _) <| sy hg15 <| sr 1 rfl <| sz 4 rfl rfl rfl) <| so rfl rfl rfl <| sr 1 rfl <| sE ?_;clear H a;intro a H
 apply list_guard (i := 20) (g := 82) (t := 88) (b := false) 6 H S rfl rfl (by kernel_rfl) (by kernel_rfl) rfl rfl
 case h1 =>
  intro hg21
  have hq21 := hg21; try simp only [o1,o2,o3,o4,o5,o6,o7,o8,o9,oa] at hq21
  refine ls 4 H <| sy hg21 <| sf fo_65_3 rfl <| sy hg21 <| sd ((does_loadBox agg_62 sz_62 rfl S (i := 0) rfl rfl)) <| sy hg21 <| sf fo_65_4 rfl <| sy hg21 <| sl S 0 one_63 rfl rfl rfl <| sE ?_;intro a H
  refine list_yes' H rfl rfl (by assumption) ?_
  refine list_call H rfl rfl Try.func74 rfl rfl (ref_CheckPart (y.us.getD i Unt.zero).rates (y.us.getD i Unt.zero).worn (y.us.getD i Unt.zero).turns (y.us.getD i Unt.zero).age (y.us.getD i Unt.zero).RA (y.us.getD i Unt.zero).rc (y.us.getD i Unt.zero).uses (y.us.getD i Unt.zero).UA (y.us.getD i Unt.zero).uc _ ((hy.rt i hi).now S) (hyb.rtn hi) ((hy.ul i hi).now S) (hyb.uln hi)) ?_
  rintro _ _ a ⟨rfl, S2⟩ H
  replace S := S.call S2;clear S2
  refine ls 1 H <| sy hg21 <| sr 1 rfl <| sE ?_;intro a H
  exact wpList_nil ⟨H.strip 6 rfl rfl, (S.sel [0, 1] rfl rfl)⟩
 clear H a S;intro a _ H S
 refine ls 7 H <| so rfl rfl rfl <| sr 1 rfl <| sg 4 28 90 94 false rfl rfl (fun hg29 => by
     have hq29 := hg29;try simp only [o1,o2,o3,o4,o5,o6,o7,o8,o9,oa] at hq29
     exact sy hg29 <| sf fo_65_4 rfl <| sy hg29 <| sl S 0 one_63 rfl rfl rfl <| sy hg29 <| sL sl_63 rfl <| sy hg29 <| sr 1 rfl <| sz 4 rfl rfl rfl) <| so rfl rfl rfl <| sE ?_;clear H a;intro a H
 refine k22 _ _ ?_;clear k22 K22
 refine cond_ H rfl (fun hc3 => ?_) (fun hc3 => ?_)
 ·skip
  try simp only [o1,o2,o3,o4,o5,o6,o7,o8,o9,oa] at hc3
  replace H := H.keep [] rfl
  refine sS H fun K23 k23=>sr 1 rfl <| sE ?_;clear H a;intro a H
  refine k23 _ ?_;clear k23 K23
  refine wp_ret ?_
  refine ret1 (fn := Try.f50) rfl H rfl ?_
  rw [untB_not (fun h => by have h1 : freeN y.ps y.us y.ps.length i (y.us.getD i Unt.zero).mach = true := h.free; have h2 := h.i; have h3 : checkP ⟨(y.us.getD i Unt.zero).rates, (y.us.getD i Unt.zero).worn, (y.us.getD i Unt.zero).turns, (y.us.getD i Unt.zero).age⟩ (y.us.getD i Unt.zero).uses = 0 := (wearE_zero h.wear).1; unfold untI at h2; rw [h1] at hc3; simp only [Bool.true_eq_false, Bool.not_true, Bool.false_eq_true, not_true_eq_false, false_or] at hc3; omega)]; exact ⟨rfl, (S.sel [] rfl rfl)⟩
 try simp only [o1,o2,o3,o4,o5,o6,o7,o8,o9,oa] at hc3
 have hcp : checkP (y.us.getD i Unt.zero).part (y.us.getD i Unt.zero).uses = 0 := by show checkP ⟨_, _, _, _⟩ _ = 0; omega
 have hrw := refO_wear hcp
 refine wp_skip ?_
 refine k21 _ _ ?_
 replace H := H.keep [5] rfl
 refine seq_list fun K24 k24 => ?_
 refine ls 4 H <| sf fo_65_3 rfl <| sd ((does_loadBox agg_62 sz_62 rfl S (i := 0) rfl rfl)) <| sf fo_65_4 rfl <| sl S 0 one_63 rfl rfl rfl <| sE ?_;clear H a;intro a H
 refine list_call H rfl rfl Try.func75 rfl rfl (ref_Refuted (y.us.getD i Unt.zero).rates (y.us.getD i Unt.zero).worn (y.us.getD i Unt.zero).turns (y.us.getD i Unt.zero).age (y.us.getD i Unt.zero).RA (y.us.getD i Unt.zero).rc (y.us.getD i Unt.zero).uses (y.us.getD i Unt.zero).UA (y.us.getD i Unt.zero).uc _ ((hy.rt i hi).now S) (hyb.rtn hi) ((hy.ul i hi).now S) (hyb.uln hi)) ?_;clear H a
 rintro _ _ a ⟨rfl, S2⟩ H
 replace S := S.call S2;clear S2
 refine ls 7 H <| sr 7 rfl <| sE ?_;clear H a;intro a H
 refine k24 _ _ ?_;clear k24 K24
 refine wp_seq_k fun K25 k25 => ?_
 replace H := H.keep [5, 11] rfl
 replace S := S.drew
 refine sD H fun K26 k26=>sr 2 rfl <| sg 4 1 106 110 false rfl rfl (fun hg2 => by
     have hq2 := hg2;try simp only [o1,o2,o3,o4,o5,o6,o7,o8,o9,oa] at hq2
     exact sy hg2 <| sf fo_65_5 rfl <| sy hg2 <| sl S 0 one_3 rfl rfl rfl <| sy hg2 <| sc rfl Try.func33 rfl rfl (rt_from _ _ _ _) <| sy hg2 <| sr 1 rfl <| sz 4 rfl rfl rfl) <| so rfl rfl rfl <| sr 1 rfl <| sg 18 7 112 130 false rfl rfl (fun hg8 => by
     have hq8 := hg8;try simp only [o1,o2,o3,o4,o5,o6,o7,o8,o9,oa] at hq8
     exact sy hg8 <| sf fo_65_4 rfl <| sy hg8 <| sl S 0 one_63 rfl rfl rfl <| sy hg8 <| sL sl_63 rfl <| sy hg8 <| sr 1 rfl <| sy hg8 <| sr 1 rfl <| sg 12 12 117 129 true rfl rfl (fun hg13 => by
          have hq13 := hg13;try simp only [o1,o2,o3,o4,o5,o6,o7,o8,o9,oa] at hq13
          exact sy hg13 <| sf fo_65_5 rfl <| sy hg13 <| sl S 0 one_3 rfl rfl rfl <| sy hg13 <| sf fo_65_4 rfl <| sy hg13 <| sl S 0 one_63 rfl rfl rfl <| sy hg13 <| sf fo_65_4 rfl <| sy hg13 <| sl S 0 one_63 rfl rfl rfl <| sy hg13 <| sL sl_63 rfl <| sy hg13 <| sd (does_sub rfl rfl (by unfold i64ok; omega)) <| sy hg13 <| sI sl_63 sz_72 rfl rfl ((hy.ul i hi).adr (by omega)) (by omega) (by omega) <| sy hg13 <| sp fo_72_0 rfl <| sy hg13 <| slm one_3 rfl ((hy.ul i hi).rd S (by omega) (by omega)) <| sy hg13 <| sr 1 rfl <| sz 12 rfl rfl rfl) <| sy hg8 <| sa rfl rfl rfl <| sz 7 rfl rfl rfl) <| so rfl rfl rfl <| sE ?_;clear H a;intro a H
 refine k26 _ ?_;clear k26 K26
 refine cond_ H rfl (fun hc4 => ?_) (fun hc4 => ?_)
 ·skip
  try simp only [o1,o2,o3,o4,o5,o6,o7,o8,o9,oa] at hc4
  replace H := H.keep [] rfl
  refine sS H fun K27 k27=>sr 1 rfl <| sE ?_;clear H a;intro a H
  refine k27 _ ?_;clear k27 K27
  refine wp_ret ?_
  refine ret1 (fn := Try.f50) rfl H rfl ?_
  rw [untB_not (fun h => by
    have h2 := h.i; have h3 := wearE_pv h.wear; unfold untI at h2
    have h5 := hrw.1 h.wear
    rcases hc4 with (h9 | h9) | h9
    · have h6 : (refO (y.us.getD i Unt.zero).part (y.us.getD i Unt.zero).uses).2.1 = true := h9
      rw [h5] at h6; cases h6
    · omega
    · have h7 := prevD_neg (l := (y.us.getD i Unt.zero).uses) (by omega) h9.2; omega)]; exact ⟨rfl, (S.sel [] rfl rfl)⟩
 try simp only [o1,o2,o3,o4,o5,o6,o7,o8,o9,oa] at hc4
 refine wp_skip ?_
 refine k25 _ _ ?_
 replace H := H.keep [5] rfl
 refine sS H fun K28 k28=>sf fo_65_6 rfl <| sl S 0 one_3 rfl rfl rfl <| sc rfl Try.func33 rfl rfl (rt_from _ _ _ _) <| sr 1 rfl <| sg 8 3 135 143 true rfl rfl (fun hg4 => by
     have hq4 := hg4;try simp only [o1,o2,o3,o4,o5,o6,o7,o8,o9,oa] at hq4
     exact sy hg4 <| sf fo_65_7 rfl <| sy hg4 <| sl S 0 one_3 rfl rfl rfl <| sy hg4 <| sf fo_65_3 rfl <| sy hg4 <| sf fo_62_0 rfl <| sy hg4 <| sl S 0 one_58 rfl rfl rfl <| sy hg4 <| sL sl_58 rfl <| sy hg4 <| sd (does_sub rfl rfl (by unfold i64ok; omega)) <| sy hg4 <| sc rfl Try.func33 rfl rfl (rt_from _ _ _ _) <| sz 8 rfl rfl rfl) <| sa rfl rfl rfl <| sr 1 rfl <| sE ?_;clear H a;intro a H
 refine k28 _ ?_;clear k28 K28
 refine wp_ret ?_
 refine ret1 (fn := Try.f50) rfl H rfl ?_
 refine ⟨congrArg Value.bool ?_, (S.sel [] rfl rfl)⟩
 rw [Bool.eq_iff_iff, untB_iff]
 simp only [Bool.and_eq_true, decide_eq_true_eq]
 constructor
 · intro h9
   refine ⟨?_, ?_, hrw.2 ?_⟩
   · show freeN _ _ _ _ _ = true; rcases hc3 with ⟨⟨⟨⟨⟨h1, _⟩, _⟩, _⟩, _⟩, _⟩; exact h1
   · have h8 := prevD_pos (l := (y.us.getD i Unt.zero).uses) (o := (y.us.getD i Unt.zero).old) (by omega) (by omega)
     unfold untI; omega
   · rcases hc4 with ⟨⟨h1, _⟩, _⟩; exact h1
 · intro h9
   have h2 := h9.i
   unfold untI at h2
   omega

theorem rt_CheckYear (y : Yr) (w : World) (hy : YIn w noF y) (hyb : YBd y) :
    Calls Try.prog 19 [.agg [.int .i64 y.days, .int .i64 y.pl, .slice y.PA y.ps.length y.pc, .slice y.XA y.xs.length y.xc, .slice y.BA y.pe.length y.bc, .int .i64 y.limit, .bool y.help, .slice y.QA y.prs.length y.qc, .slice y.VA y.us.length y.vc, .int .i64 y.crew, .slice y.SA y.sps.length y.sc].toArray].toArray w (Ret (fun v w' => v = .int .i64 (yearE y) ∧ St w noF [] w')) := by
 have hn3 := hyb.usn
 refine enter Try.func19 rfl Try.ntmps19 rfl (fun a H => ?_)
 have S := St.start w
 refine seq_list fun K1 k1 => ?_
 refine list_box H rfl S rfl rfl ?_;clear H a S;intro b1 _ a hb1 hbw1 S H
 refine ls 1 H <| sr 1 rfl <| sE ?_;clear H a;intro a H
 refine k1 _ _ ?_;clear k1 K1
 refine seq_list fun K2 k2 => ?_
 refine ls 2 H <| sf fo_30_1 rfl <| sd ((does_loadBox agg_25 sz_25 rfl S (i := 0) rfl rfl)) <| sE ?_;clear H a;intro a H
 refine list_call H rfl rfl Try.func47 rfl rfl (w8ref_Check y.pl y.ps y.PA y.pc y.xs y.XA y.xc _ (hy.ps.now S) hyb.psn (hy.xs.now S) hyb.xsn) ?_;clear H a
 rintro _ _ a ⟨rfl, S2⟩ H
 replace S := S.call S2;clear S2
 refine ls 1 H <| sr 1 rfl <| sE ?_;clear H a;intro a H
 refine k2 _ _ ?_;clear k2 K2
 refine wp_seq_k fun K3 k3 => ?_
 refine sS H fun K4 k4=>sr 2 rfl <| sE ?_;clear H a;intro a H
 refine k4 _ ?_;clear k4 K4
 refine condN H rfl (fun hc1 => ?_) (fun hc1 => ?_)
 ·skip
  replace H := H.keep [3] rfl
  refine sS H fun K5 k5=>sr 2 rfl <| sE ?_;clear H a;intro a H
  refine k5 _ ?_;clear k5 K5
  refine wp_ret ?_
  refine ret1 (fn := Try.f19) rfl H rfl ?_
  have e9 := keptE_st (day := []) (l := y.prs) hc1
  rw [yearE_kept (by rw [e9]; exact hc1), e9]; exact ⟨rfl, (S.sel [] rfl rfl)⟩
 refine wp_skip ?_
 refine k3 _ _ ?_
 refine seq_list fun K6 k6 => ?_
 refine ls 4 H <| sf fo_30_1 rfl <| sd ((does_loadBox agg_25 sz_25 rfl S (i := 0) rfl rfl)) <| sf fo_30_5 rfl <| sl S 0 one_26 rfl rfl rfl <| sE ?_;clear H a;intro a H
 refine list_call H rfl rfl Try.func48 rfl rfl (ref_CheckPromises y.pl y.ps y.PA y.pc y.xs y.XA y.xc ([] : List Hq) none 0 (fun _ => none) (fun _ => 0) y.prs y.QA y.qc _ (hy.ps.now S) hyb.psn (hy.xs.now S) hyb.xsn InS.nil (by decide) (fun k hk => absurd hk (Nat.not_lt_zero k)) (fun k hk => absurd hk (Nat.not_lt_zero k)) (hy.prs.now S) hyb.prn) ?_;clear H a
 rintro _ _ a ⟨rfl, S2⟩ H
 replace S := S.call S2;clear S2
 refine ls 1 H <| sr 1 rfl <| sE ?_;clear H a;intro a H
 refine k6 _ _ ?_;clear k6 K6
 refine wp_seq_k fun K7 k7 => ?_
 replace H := H.keep [1, 3] rfl
 refine sS H fun K8 k8=>sr 2 rfl <| sE ?_;clear H a;intro a H
 refine k8 _ ?_;clear k8 K8
 refine condN H rfl (fun hc2 => ?_) (fun hc2 => ?_)
 ·skip
  refine sS H fun K9 k9=>sr 2 rfl <| sE ?_;clear H a;intro a H
  refine k9 _ ?_;clear k9 K9
  refine wp_ret ?_
  refine ret1 (fn := Try.f19) rfl H rfl ?_
  exact ⟨congrArg _ (yearE_kept hc2).symm, (S.sel [] rfl rfl)⟩
 refine wp_skip ?_
 refine k7 _ _ ?_
 refine wp_seq_k fun K10 k10 => ?_
 refine seq_list fun K11 k11 => ?_
 refine ls 1 H <| sd ((does_loadBox agg_30 sz_30 rfl S (i := 0) rfl rfl)) <| sE ?_;clear H a;intro a H
 refine list_call H rfl rfl Try.func49 rfl rfl (rt_isYear y _ (hy.now S) hyb (by omega)) ?_;clear H a
 rintro _ _ a ⟨rfl, S2⟩ H
 replace S := S.call S2;clear S2
 refine ls 1 H <| sr 1 rfl <| sE ?_;clear H a;intro a H
 refine k11 _ _ ?_;clear k11 K11
 refine cond_ H rfl (fun hc3 => ?_) (fun hc3 => ?_)
 ·skip
  try simp only [o1,o2,o3,o4,o5,o6,o7,o8,o9,oa] at hc3
  refine sS H fun K12 k12=>sr 1 rfl <| sE ?_;clear H a;intro a H
  refine k12 _ ?_;clear k12 K12
  refine wp_ret ?_
  refine ret1 (fn := Try.f19) rfl H rfl ?_
  rw [yearE_yr (by omega) (fun h => by rw [yrB_t h] at hc3; simp at hc3)]; exact ⟨rfl, (S.sel [] rfl rfl)⟩
 try simp only [o1,o2,o3,o4,o5,o6,o7,o8,o9,oa] at hc3
 have hyi := yrB_iff.1 (by simpa using hc3)
 refine wp_skip ?_
 refine k10 _ _ ?_
 refine wp_seq_k fun K13 k13 => ?_
 replace H := H.keep [1] rfl
 refine sS H fun K14 k14=>sf fo_30_6 rfl <| sl S 0 one_27 rfl rfl rfl <| sL sl_27 rfl <| sr 1 rfl <| sE ?_;clear H a;intro a H
 refine k14 _ ?_;clear k14 K14
 refine condL H rfl (fun hc4 => ?_) (fun hc4 => ?_)
 ·skip
  refine sS H fun K15 k15=>sr 1 rfl <| sE ?_;clear H a;intro a H
  refine k15 _ ?_;clear k15 K15
  refine wp_ret ?_
  refine ret1 (fn := Try.f19) rfl H rfl ?_
  rw [yearE_many (by omega) hyi (by omega)]; exact ⟨rfl, (S.sel [] rfl rfl)⟩
 refine wp_skip ?_
 refine k13 _ _ ?_
 refine wp_seq_k fun K16 k16 => ?_
 refine sS H fun K17 k17=>sr 1 rfl <| sE ?_;clear H a;intro a H
 refine k17 _ ?_;clear k17 K17
 refine wp_block ?_
 refine loop_st (X := Nat) (R0 := _) [1] H rfl (fun k => [(4, .int .i64 (k : Int))]) (fun k => []) (fun g k => k ≤ y.us.length ∧ g + k = y.us.length ∧ ∀ q, q < k → untB y.ps y.us q = true) (y.us.length) 0 ?_ (S.sel [0] rfl rfl) (H.keep [4, 1] rfl) ?_
 · exact ⟨by omega, by omega, fun q hq => absurd hq (Nat.not_lt_zero q)⟩
 clear H S a
 intro g1 x1 a w1 hp S H K18 k18
 obtain ⟨k, rfl⟩ : ∃ y, y = x1 := ⟨_, rfl⟩
 refine wp_seq_k fun K19 k19 => ?_
 refine sS H fun K20 k20=>sr 1 rfl <| sf fo_30_6 rfl <| sl S 0 one_27 rfl rfl rfl <| sL sl_27 rfl <| sr 1 rfl <| sE ?_;clear H a;intro a H
 refine k20 _ ?_;clear k20 K20
 refine condL H rfl (fun hc5 => ?_) (fun hc5 => ?_)
 ·skip
  refine wp_skip ?_
  refine k19 _ _ ?_
  refine wp_seq_k fun K21 k21 => ?_
  refine wp_block ?_
  refine seq_list fun K22 k22 => ?_
  refine ls 2 H <| sd ((does_loadBox agg_30 sz_30 rfl S (i := 0) rfl rfl)) <| sr 1 rfl <| sE ?_;clear H a;intro a H
  refine list_call H rfl rfl Try.func50 rfl rfl (rt_isUnit y k _ (hy.now S) hyb (by omega)) ?_;clear H a
  rintro _ _ a ⟨rfl, S2⟩ H
  replace S := S.call S2;clear S2
  refine ls 1 H <| sr 1 rfl <| sE ?_;clear H a;intro a H
  refine k22 _ _ ?_;clear k22 K22
  refine cond_ H rfl (fun hc6 => ?_) (fun hc6 => ?_)
  ·skip
   try simp only [o1,o2,o3,o4,o5,o6,o7,o8,o9,oa] at hc6
   replace H := H.keep [] rfl
   refine sS H fun K23 k23=>sr 1 rfl <| sE ?_;clear H a;intro a H
   refine k23 _ ?_;clear k23 K23
   refine wp_ret ?_
   refine ret1 (fn := Try.f19) rfl H rfl ?_
   rw [yearE_unit (by omega) hyi (by omega) (show k < y.us.length by omega) (by simpa using hc6)]; exact ⟨rfl, (S.sel [] rfl rfl)⟩
  try simp only [o1,o2,o3,o4,o5,o6,o7,o8,o9,oa] at hc6
  refine wp_skip ?_
  refine k21 _ _ ?_
  refine sO H <| sr 1 rfl <| sd (does_add rfl rfl (by unfold i64ok; omega)) <| sr 1 rfl <| sE ?_;clear H a;intro a H
  exact k18 (g1 - 1) (k + 1) a _ (by omega) (⟨by omega, by omega, all_next (f := untB y.ps y.us) hp.2.2 (by simpa using hc6)⟩) (S.sel [0] rfl rfl) (H.keep [4, 1] rfl)
 refine wp_exit ?_
 refine k16 _ _ ?_
 refine sS H fun K25 k25=>sr 1 rfl <| sE ?_;clear H a;intro a H
 refine k25 _ ?_;clear k25 K25
 refine wp_ret ?_
 refine ret1 (fn := Try.f19) rfl H rfl ?_
 rw [yearE_ok (by omega) hyi (by omega) (allN_iff.2 fun q hq => hp.2.2 q (by omega))]; exact ⟨rfl, (S.sel [] rfl rfl)⟩

theorem rt_Check (y : Yr) (l : List Tsk) (LA : Option Addr) (lc : Nat) (w : World) (hy : YIn w noF y) (hyb : YBd y) (hl : InS w noF 3 LA l.length (tkcell l)) (hln : l.length ≤ 9223372036854775807) :
    Calls Try.prog 10 [.agg [.int .i64 y.days, .int .i64 y.pl, .slice y.PA y.ps.length y.pc, .slice y.XA y.xs.length y.xc, .slice y.BA y.pe.length y.bc, .int .i64 y.limit, .bool y.help, .slice y.QA y.prs.length y.qc, .slice y.VA y.us.length y.vc, .int .i64 y.crew, .slice y.SA y.sps.length y.sc].toArray, .slice LA l.length lc].toArray w (Ret (fun v w' => v = .int .i64 (taskE y l) ∧ St w noF [] w')) := by
 have hn3 := hyb.usn
 refine enter Try.func10 rfl Try.ntmps10 rfl (fun a H => ?_)
 have S := St.start w
 refine seq_list fun K1 k1 => ?_
 refine list_box H rfl S rfl rfl ?_;clear H a S;intro b2 _ a hb2 hbw2 S H
 refine ls 1 H <| sr 1 rfl <| sE ?_;clear H a;intro a H
 refine k1 _ _ ?_;clear k1 K1
 refine seq_list fun K2 k2 => ?_
 refine ls 1 H <| sd ((does_loadBox agg_30 sz_30 rfl S (i := 0) rfl rfl)) <| sE ?_;clear H a;intro a H
 refine list_call H rfl rfl Try.func19 rfl rfl (rt_CheckYear y _ (hy.now S) hyb) ?_;clear H a
 rintro _ _ a ⟨rfl, S2⟩ H
 replace S := S.call S2;clear S2
 refine ls 1 H <| sr 1 rfl <| sE ?_;clear H a;intro a H
 refine k2 _ _ ?_;clear k2 K2
 refine wp_seq_k fun K3 k3 => ?_
 refine sS H fun K4 k4=>sr 2 rfl <| sE ?_;clear H a;intro a H
 refine k4 _ ?_;clear k4 K4
 refine condN H rfl (fun hc1 => ?_) (fun hc1 => ?_)
 ·skip
  refine sS H fun K5 k5=>sr 2 rfl <| sE ?_;clear H a;intro a H
  refine k5 _ ?_;clear k5 K5
  refine wp_ret ?_
  refine ret1 (fn := Try.f10) rfl H rfl ?_
  exact ⟨congrArg _ (taskE_year hc1).symm, (S.sel [] rfl rfl)⟩
 have hye : yearE y = 0 := by omega
 have hyi := (year_ok hye).yr
 unfold yrI at hyi
 refine wp_skip ?_
 refine k3 _ _ ?_
 refine wp_seq_k fun K6 k6 => ?_
 replace H := H.keep [1, 2] rfl
 refine sS H fun K7 k7=>sr 1 rfl <| sL sl_31 rfl <| sr 1 rfl <| sE ?_;clear H a;intro a H
 refine k7 _ ?_;clear k7 K7
 refine condL H rfl (fun hc2 => ?_) (fun hc2 => ?_)
 ·skip
  refine sS H fun K8 k8=>sr 1 rfl <| sE ?_;clear H a;intro a H
  refine k8 _ ?_;clear k8 K8
  refine wp_ret ?_
  refine ret1 (fn := Try.f10) rfl H rfl ?_
  rw [taskE_many hye (by omega)]; exact ⟨rfl, (S.sel [] rfl rfl)⟩
 refine wp_skip ?_
 refine k6 _ _ ?_
 refine wp_seq_k fun K9 k9 => ?_
 refine sS H fun K10 k10=>sr 1 rfl <| sE ?_;clear H a;intro a H
 refine k10 _ ?_;clear k10 K10
 refine wp_block ?_
 refine loop_st (X := Nat) (R0 := _) [1, 2] H rfl (fun k => [(6, .int .i64 (k : Int))]) (fun k => []) (fun g k => k ≤ l.length ∧ g + k = l.length ∧ ∀ q, q < k → tskB y l q = true) (l.length) 0 ?_ (S.sel [0] rfl rfl) (H.keep [6, 1, 2] rfl) ?_
 · exact ⟨by omega, by omega, fun q hq => absurd hq (Nat.not_lt_zero q)⟩
 clear H S a
 intro g1 x1 a w1 hp S H K11 k11
 obtain ⟨k, rfl⟩ : ∃ y, y = x1 := ⟨_, rfl⟩
 refine wp_seq_k fun K12 k12 => ?_
 refine sS H fun K13 k13=>sr 2 rfl <| sL sl_31 rfl <| sr 1 rfl <| sE ?_;clear H a;intro a H
 refine k13 _ ?_;clear k13 K13
 refine condL H rfl (fun hc3 => ?_) (fun hc3 => ?_)
 ·skip
  refine wp_skip ?_
  refine k12 _ _ ?_
  refine wp_seq_k fun K14 k14 => ?_
  refine wp_block ?_
  rcases chk5 (0 ≤ (l.getD k Tsk.zero).day ∧ (l.getD k Tsk.zero).day ≤ y.days - 1) (0 ≤ (l.getD k Tsk.zero).unit ∧ (l.getD k Tsk.zero).unit ≤ (y.us.length : Int) - 1) (1 ≤ (l.getD k Tsk.zero).kind ∧ (l.getD k Tsk.zero).kind ≤ 2) k with hB | hB | hB | hB | hB
  ·skip
   skip
   replace H := H.keep [1, 2, 6] rfl
   replace S := S.drew
   refine seq_wq [(0, true), (1, true), (2, true), (3, true), (4, true), (5, true), (6, true), (7, true), (8, false), (9, true), (10, true), (11, true), (12, true), (13, true), (14, true), (15, true), (16, true), (17, true), (18, true), (19, true), (20, true), (21, true), (22, true), (23, true), (24, true), (25, true), (26, true), (27, true), (28, true), (29, true), (30, true), (31, true), (32, true), (33, true), (34, true), (35, true), (36, true), (37, true), (38, true), (39, true), (40, true), (41, true), (42, true), (43, true), (44, true), (45, true), (46, true), (47, true), (48, true)] (by kernel_rfl) (by kernel_rfl) (S.sel [0] rfl rfl) fun K15 k15 => ?_
   refine qF H <| qr 2 rfl <| qd rfl (fun _ S => does_indexN sl_31 sz_48 rfl rfl (hl.adr (by omega)) (by omega)) <| qd rfl (fun _ S => (does_field_pt fo_48_0 rfl)) <| qd rfl (fun _ S => does_load one_3 rfl (hl.rd S (by omega) (by omega))) <| qd rfl (fun _ S => (does_field fo_30_0 rfl)) <| qd rfl (fun _ S => does_load one_3 rfl (boxM.rd S (i := 0) rfl rfl)) <| qd rfl (fun _ S => does_sub rfl rfl (by unfold i64ok; omega)) <| qK ?_;clear H a;intro a H
   refine wq_eff rfl ?_
   refine list_call H rfl rfl Try.func33 rfl rfl (rt_from _ _ _ _) ?_;clear H a
   rintro _ _ a ⟨rfl, rfl⟩ H
   refine wpList_nil (And.intro (S.sel [0] rfl rfl) ?_)
   refine qF H <| qd rfl (fun _ S => does_notw_t rfl (by omega)) <| qr 1 rfl <| qK ?_;clear H a;intro a H
   refine wq_no H rfl rfl rfl rfl rfl ?_;clear H a;intro a H
   refine wq_no H rfl rfl rfl rfl rfl ?_;clear H a;intro a H
   refine wq_no H rfl rfl rfl rfl rfl ?_;clear H a;intro a H
   refine wq_no H rfl rfl rfl rfl rfl ?_;clear H a;intro a H
   refine wq_no H rfl rfl rfl rfl rfl ?_;clear H a;intro a H
   refine wq_no H rfl rfl rfl rfl rfl ?_;clear H a;intro a H
   refine wq_no H rfl rfl rfl rfl rfl ?_;clear H a;intro a H
   refine wq_no H rfl rfl rfl rfl rfl ?_;clear H a;intro a H
   refine wq_no H rfl rfl rfl rfl rfl ?_;clear H a;intro a H
   refine wq_no H rfl rfl rfl rfl rfl ?_;clear H a;intro a H
   refine wq_no H rfl rfl rfl rfl rfl ?_;clear H a;intro a H
   refine qF H <| qd rfl (fun _ S => (does_pick rfl rfl rfl)) <| qr 1 rfl <| qK ?_;clear H a;intro a H
   refine wq_no H rfl rfl rfl rfl rfl ?_;clear H a;intro a H
   refine wq_no H rfl rfl rfl rfl rfl ?_;clear H a;intro a H
   refine wq_no H rfl rfl rfl rfl rfl ?_;clear H a;intro a H
   refine wq_no H rfl rfl rfl rfl rfl ?_;clear H a;intro a H
   refine wq_no H rfl rfl rfl rfl rfl ?_;clear H a;intro a H
   refine wq_no H rfl rfl rfl rfl rfl ?_;clear H a;intro a H
   refine wq_no H rfl rfl rfl rfl rfl ?_;clear H a;intro a H
   refine qF H <| qd rfl (fun _ S => (does_pick rfl rfl rfl)) <| qr 1 rfl <| qK ?_;clear H a;intro a H
   refine wq_no H rfl rfl rfl rfl rfl ?_;clear H a;intro a H
   refine wq_no H rfl rfl rfl rfl rfl ?_;clear H a;intro a H
   refine wq_no H rfl rfl rfl rfl rfl ?_;clear H a;intro a H
   refine wq_un H rfl rfl rfl rfl ?_;clear H a;intro a H
   refine wq_un H rfl rfl rfl rfl ?_;clear H a;intro a H
   refine wq_un H rfl rfl rfl rfl ?_;clear H a;intro a H
   refine wq_un H rfl rfl rfl rfl ?_;clear H a;intro a H
   refine wq_un H rfl rfl rfl rfl ?_;clear H a;intro a H
   refine wq_un H rfl rfl rfl rfl ?_;clear H a;intro a H
   refine wq_un H rfl rfl rfl rfl ?_;clear H a;intro a H
   refine wq_un H rfl rfl rfl rfl ?_;clear H a;intro a H
   refine wq_un H rfl rfl rfl rfl ?_;clear H a;intro a H
   refine wq_un H rfl rfl rfl rfl ?_;clear H a;intro a H
   refine wq_un H rfl rfl rfl rfl ?_;clear H a;intro a H
   refine wq_no H rfl rfl rfl rfl rfl ?_;clear H a;intro a H
   refine qF H <| qd rfl (fun _ S => (does_pick rfl rfl rfl)) <| qK ?_;clear H a;intro a H
   refine wq_nil ?_
   refine k15 _ _ ?_
   clear k15 K15
   refine cond_ H rfl (fun hc4 => ?_) (fun hc4 => ?_)
   ·skip
    skip
    replace H := H.keep [] rfl
    refine sS H fun K16 k16=>sr 1 rfl <| sE ?_;clear H a;intro a H
    refine k16 _ ?_;clear k16 K16
    refine wp_ret ?_
    refine ret1 (fn := Try.f10) rfl H rfl ?_
    rw [taskE_bad hye (by omega) (show k < l.length by omega) (tsk_bad1 (by omega))]; exact ⟨rfl, (S.sel [] rfl rfl)⟩
   skip
   cases hc4
  ·skip
   skip
   replace H := H.keep [1, 2, 6] rfl
   replace S := S.drew
   refine seq_wq [(0, true), (1, true), (2, true), (3, true), (4, true), (5, true), (6, true), (7, true), (8, false), (9, true), (10, true), (11, true), (12, true), (13, true), (14, true), (15, true), (16, true), (17, true), (18, true), (19, true), (20, false), (21, true), (22, true), (23, true), (24, true), (25, true), (26, true), (27, true), (28, true), (29, true), (30, true), (31, true), (32, true), (33, true), (34, true), (35, true), (36, true), (37, true), (38, true), (39, true), (40, true), (41, true), (42, true), (43, true), (44, true), (45, true), (46, true), (47, true), (48, true)] (by kernel_rfl) (by kernel_rfl) (S.sel [0] rfl rfl) fun K17 k17 => ?_
   refine qF H <| qr 2 rfl <| qd rfl (fun _ S => does_indexN sl_31 sz_48 rfl rfl (hl.adr (by omega)) (by omega)) <| qd rfl (fun _ S => (does_field_pt fo_48_0 rfl)) <| qd rfl (fun _ S => does_load one_3 rfl (hl.rd S (by omega) (by omega))) <| qd rfl (fun _ S => (does_field fo_30_0 rfl)) <| qd rfl (fun _ S => does_load one_3 rfl (boxM.rd S (i := 0) rfl rfl)) <| qd rfl (fun _ S => does_sub rfl rfl (by unfold i64ok; omega)) <| qK ?_;clear H a;intro a H
   refine wq_eff rfl ?_
   refine list_call H rfl rfl Try.func33 rfl rfl (rt_from _ _ _ _) ?_;clear H a
   rintro _ _ a ⟨rfl, rfl⟩ H
   refine wpList_nil (And.intro (S.sel [0] rfl rfl) ?_)
   refine qF H <| qd rfl (fun _ S => does_notw_f rfl (by omega)) <| qr 1 rfl <| qK ?_;clear H a;intro a H
   refine wq_yes H rfl rfl rfl rfl (fun _ S => does_move rfl) ?_;clear H a;intro a H
   refine wq_yes H rfl rfl rfl rfl (fun _ S => does_move rfl) ?_;clear H a;intro a H
   refine wq_yes H rfl rfl rfl rfl (fun _ S => does_indexN sl_31 sz_48 rfl rfl (hl.adr (by omega)) (by omega)) ?_;clear H a;intro a H
   refine wq_yes H rfl rfl rfl rfl (fun _ S => (does_field_pt fo_48_1 rfl)) ?_;clear H a;intro a H
   refine wq_yes H rfl rfl rfl rfl (fun _ S => does_load one_3 rfl (hl.rd S (by omega) (by omega))) ?_;clear H a;intro a H
   refine wq_yes H rfl rfl rfl rfl (fun _ S => (does_field fo_30_6 rfl)) ?_;clear H a;intro a H
   refine wq_yes H rfl rfl rfl rfl (fun _ S => does_load one_27 rfl (boxM.rd S (i := 0) rfl rfl)) ?_;clear H a;intro a H
   refine wq_yes H rfl rfl rfl rfl (fun _ S => does_len sl_27 rfl) ?_;clear H a;intro a H
   refine wq_yes H rfl rfl rfl rfl (fun _ S => does_sub rfl rfl (by unfold i64ok; omega)) ?_;clear H a;intro a H
   refine wq_eff rfl ?_
   refine list_yes H rfl rfl ?_
   refine list_call H rfl rfl Try.func33 rfl rfl (rt_from _ _ _ _) ?_;clear H a
   rintro _ _ a ⟨rfl, rfl⟩ H
   refine wpList_nil (And.intro (S.sel [0] rfl rfl) ?_)
   refine wq_yes H rfl rfl rfl rfl (fun _ S => does_notw_t rfl (by omega)) ?_;clear H a;intro a H
   refine qF H <| qd rfl (fun _ S => (does_or rfl rfl rfl)) <| qr 1 rfl <| qK ?_;clear H a;intro a H
   refine wq_no H rfl rfl rfl rfl rfl ?_;clear H a;intro a H
   refine wq_no H rfl rfl rfl rfl rfl ?_;clear H a;intro a H
   refine wq_no H rfl rfl rfl rfl rfl ?_;clear H a;intro a H
   refine wq_no H rfl rfl rfl rfl rfl ?_;clear H a;intro a H
   refine wq_no H rfl rfl rfl rfl rfl ?_;clear H a;intro a H
   refine wq_no H rfl rfl rfl rfl rfl ?_;clear H a;intro a H
   refine wq_no H rfl rfl rfl rfl rfl ?_;clear H a;intro a H
   refine qF H <| qd rfl (fun _ S => (does_pick rfl rfl rfl)) <| qr 1 rfl <| qK ?_;clear H a;intro a H
   refine wq_no H rfl rfl rfl rfl rfl ?_;clear H a;intro a H
   refine wq_no H rfl rfl rfl rfl rfl ?_;clear H a;intro a H
   refine wq_no H rfl rfl rfl rfl rfl ?_;clear H a;intro a H
   refine wq_un H rfl rfl rfl rfl ?_;clear H a;intro a H
   refine wq_un H rfl rfl rfl rfl ?_;clear H a;intro a H
   refine wq_un H rfl rfl rfl rfl ?_;clear H a;intro a H
   refine wq_un H rfl rfl rfl rfl ?_;clear H a;intro a H
   refine wq_un H rfl rfl rfl rfl ?_;clear H a;intro a H
   refine wq_un H rfl rfl rfl rfl ?_;clear H a;intro a H
   refine wq_un H rfl rfl rfl rfl ?_;clear H a;intro a H
   refine wq_un H rfl rfl rfl rfl ?_;clear H a;intro a H
   refine wq_un H rfl rfl rfl rfl ?_;clear H a;intro a H
   refine wq_un H rfl rfl rfl rfl ?_;clear H a;intro a H
   refine wq_un H rfl rfl rfl rfl ?_;clear H a;intro a H
   refine wq_no H rfl rfl rfl rfl rfl ?_;clear H a;intro a H
   refine qF H <| qd rfl (fun _ S => (does_pick rfl rfl rfl)) <| qK ?_;clear H a;intro a H
   refine wq_nil ?_
   refine k17 _ _ ?_
   clear k17 K17
   refine cond_ H rfl (fun hc5 => ?_) (fun hc5 => ?_)
   ·skip
    skip
    replace H := H.keep [] rfl
    refine sS H fun K18 k18=>sr 1 rfl <| sE ?_;clear H a;intro a H
    refine k18 _ ?_;clear k18 K18
    refine wp_ret ?_
    refine ret1 (fn := Try.f10) rfl H rfl ?_
    rw [taskE_bad hye (by omega) (show k < l.length by omega) (tsk_bad1 (by omega))]; exact ⟨rfl, (S.sel [] rfl rfl)⟩
   skip
   cases hc5
  ·skip
   skip
   replace H := H.keep [1, 2, 6] rfl
   replace S := S.drew
   refine seq_wq [(0, true), (1, true), (2, true), (3, true), (4, true), (5, true), (6, true), (7, true), (8, false), (9, true), (10, true), (11, true), (12, true), (13, true), (14, true), (15, true), (16, true), (17, true), (18, true), (19, true), (20, false), (21, true), (22, true), (23, true), (24, true), (25, true), (26, true), (27, true), (28, true), (29, false), (30, true), (31, true), (32, true), (33, true), (34, true), (35, true), (36, true), (37, true), (38, true), (39, true), (40, true), (41, true), (42, true), (43, true), (44, true), (45, true), (46, true), (47, true), (48, true)] (by kernel_rfl) (by kernel_rfl) (S.sel [0] rfl rfl) fun K19 k19 => ?_
   refine qF H <| qr 2 rfl <| qd rfl (fun _ S => does_indexN sl_31 sz_48 rfl rfl (hl.adr (by omega)) (by omega)) <| qd rfl (fun _ S => (does_field_pt fo_48_0 rfl)) <| qd rfl (fun _ S => does_load one_3 rfl (hl.rd S (by omega) (by omega))) <| qd rfl (fun _ S => (does_field fo_30_0 rfl)) <| qd rfl (fun _ S => does_load one_3 rfl (boxM.rd S (i := 0) rfl rfl)) <| qd rfl (fun _ S => does_sub rfl rfl (by unfold i64ok; omega)) <| qK ?_;clear H a;intro a H
   refine wq_eff rfl ?_
   refine list_call H rfl rfl Try.func33 rfl rfl (rt_from _ _ _ _) ?_;clear H a
   rintro _ _ a ⟨rfl, rfl⟩ H
   refine wpList_nil (And.intro (S.sel [0] rfl rfl) ?_)
   refine qF H <| qd rfl (fun _ S => does_notw_f rfl (by omega)) <| qr 1 rfl <| qK ?_;clear H a;intro a H
   refine wq_yes H rfl rfl rfl rfl (fun _ S => does_move rfl) ?_;clear H a;intro a H
   refine wq_yes H rfl rfl rfl rfl (fun _ S => does_move rfl) ?_;clear H a;intro a H
   refine wq_yes H rfl rfl rfl rfl (fun _ S => does_indexN sl_31 sz_48 rfl rfl (hl.adr (by omega)) (by omega)) ?_;clear H a;intro a H
   refine wq_yes H rfl rfl rfl rfl (fun _ S => (does_field_pt fo_48_1 rfl)) ?_;clear H a;intro a H
   refine wq_yes H rfl rfl rfl rfl (fun _ S => does_load one_3 rfl (hl.rd S (by omega) (by omega))) ?_;clear H a;intro a H
   refine wq_yes H rfl rfl rfl rfl (fun _ S => (does_field fo_30_6 rfl)) ?_;clear H a;intro a H
   refine wq_yes H rfl rfl rfl rfl (fun _ S => does_load one_27 rfl (boxM.rd S (i := 0) rfl rfl)) ?_;clear H a;intro a H
   refine wq_yes H rfl rfl rfl rfl (fun _ S => does_len sl_27 rfl) ?_;clear H a;intro a H
   refine wq_yes H rfl rfl rfl rfl (fun _ S => does_sub rfl rfl (by unfold i64ok; omega)) ?_;clear H a;intro a H
   refine wq_eff rfl ?_
   refine list_yes H rfl rfl ?_
   refine list_call H rfl rfl Try.func33 rfl rfl (rt_from _ _ _ _) ?_;clear H a
   rintro _ _ a ⟨rfl, rfl⟩ H
   refine wpList_nil (And.intro (S.sel [0] rfl rfl) ?_)
   refine wq_yes H rfl rfl rfl rfl (fun _ S => does_notw_f rfl (by omega)) ?_;clear H a;intro a H
   refine qF H <| qd rfl (fun _ S => (does_or rfl rfl rfl)) <| qr 1 rfl <| qK ?_;clear H a;intro a H
   refine wq_yes H rfl rfl rfl rfl (fun _ S => does_move rfl) ?_;clear H a;intro a H
   refine wq_yes H rfl rfl rfl rfl (fun _ S => does_move rfl) ?_;clear H a;intro a H
   refine wq_yes H rfl rfl rfl rfl (fun _ S => does_indexN sl_31 sz_48 rfl rfl (hl.adr (by omega)) (by omega)) ?_;clear H a;intro a H
   refine wq_yes H rfl rfl rfl rfl (fun _ S => (does_field_pt fo_48_2 rfl)) ?_;clear H a;intro a H
   refine wq_yes H rfl rfl rfl rfl (fun _ S => does_load one_3 rfl (hl.rd S (by omega) (by omega))) ?_;clear H a;intro a H
   refine wq_eff rfl ?_
   refine list_yes H rfl rfl ?_
   refine list_call H rfl rfl Try.func33 rfl rfl (rt_from _ _ _ _) ?_;clear H a
   rintro _ _ a ⟨rfl, rfl⟩ H
   refine wpList_nil (And.intro (S.sel [0] rfl rfl) ?_)
   refine wq_yes H rfl rfl rfl rfl (fun _ S => does_notw_t rfl (by omega)) ?_;clear H a;intro a H
   refine qF H <| qd rfl (fun _ S => (does_or rfl rfl rfl)) <| qr 1 rfl <| qK ?_;clear H a;intro a H
   refine wq_no H rfl rfl rfl rfl rfl ?_;clear H a;intro a H
   refine wq_no H rfl rfl rfl rfl rfl ?_;clear H a;intro a H
   refine wq_no H rfl rfl rfl rfl rfl ?_;clear H a;intro a H
   refine wq_un H rfl rfl rfl rfl ?_;clear H a;intro a H
   refine wq_un H rfl rfl rfl rfl ?_;clear H a;intro a H
   refine wq_un H rfl rfl rfl rfl ?_;clear H a;intro a H
   refine wq_un H rfl rfl rfl rfl ?_;clear H a;intro a H
   refine wq_un H rfl rfl rfl rfl ?_;clear H a;intro a H
   refine wq_un H rfl rfl rfl rfl ?_;clear H a;intro a H
   refine wq_un H rfl rfl rfl rfl ?_;clear H a;intro a H
   refine wq_un H rfl rfl rfl rfl ?_;clear H a;intro a H
   refine wq_un H rfl rfl rfl rfl ?_;clear H a;intro a H
   refine wq_un H rfl rfl rfl rfl ?_;clear H a;intro a H
   refine wq_un H rfl rfl rfl rfl ?_;clear H a;intro a H
   refine wq_no H rfl rfl rfl rfl rfl ?_;clear H a;intro a H
   refine qF H <| qd rfl (fun _ S => (does_pick rfl rfl rfl)) <| qK ?_;clear H a;intro a H
   refine wq_nil ?_
   refine k19 _ _ ?_
   clear k19 K19
   refine cond_ H rfl (fun hc6 => ?_) (fun hc6 => ?_)
   ·skip
    skip
    replace H := H.keep [] rfl
    refine sS H fun K20 k20=>sr 1 rfl <| sE ?_;clear H a;intro a H
    refine k20 _ ?_;clear k20 K20
    refine wp_ret ?_
    refine ret1 (fn := Try.f10) rfl H rfl ?_
    rw [taskE_bad hye (by omega) (show k < l.length by omega) (tsk_bad1 (by omega))]; exact ⟨rfl, (S.sel [] rfl rfl)⟩
   skip
   cases hc6
  ·skip
   skip
   replace H := H.keep [1, 2, 6] rfl
   replace S := S.drew
   refine seq_wq [(0, true), (1, true), (2, true), (3, true), (4, true), (5, true), (6, true), (7, true), (8, false), (9, true), (10, true), (11, true), (12, true), (13, true), (14, true), (15, true), (16, true), (17, true), (18, true), (19, true), (20, false), (21, true), (22, true), (23, true), (24, true), (25, true), (26, true), (27, true), (28, true), (29, false), (30, true), (31, true), (32, true), (33, true), (34, true), (35, true), (36, true), (37, true), (38, true), (39, true), (40, true), (41, true), (42, true), (43, true), (44, true), (45, true), (46, true), (47, true), (48, true)] (by kernel_rfl) (by kernel_rfl) (S.sel [0] rfl rfl) fun K21 k21 => ?_
   refine qF H <| qr 2 rfl <| qd rfl (fun _ S => does_indexN sl_31 sz_48 rfl rfl (hl.adr (by omega)) (by omega)) <| qd rfl (fun _ S => (does_field_pt fo_48_0 rfl)) <| qd rfl (fun _ S => does_load one_3 rfl (hl.rd S (by omega) (by omega))) <| qd rfl (fun _ S => (does_field fo_30_0 rfl)) <| qd rfl (fun _ S => does_load one_3 rfl (boxM.rd S (i := 0) rfl rfl)) <| qd rfl (fun _ S => does_sub rfl rfl (by unfold i64ok; omega)) <| qK ?_;clear H a;intro a H
   refine wq_eff rfl ?_
   refine list_call H rfl rfl Try.func33 rfl rfl (rt_from _ _ _ _) ?_;clear H a
   rintro _ _ a ⟨rfl, rfl⟩ H
   refine wpList_nil (And.intro (S.sel [0] rfl rfl) ?_)
   refine qF H <| qd rfl (fun _ S => does_notw_f rfl (by omega)) <| qr 1 rfl <| qK ?_;clear H a;intro a H
   refine wq_yes H rfl rfl rfl rfl (fun _ S => does_move rfl) ?_;clear H a;intro a H
   refine wq_yes H rfl rfl rfl rfl (fun _ S => does_move rfl) ?_;clear H a;intro a H
   refine wq_yes H rfl rfl rfl rfl (fun _ S => does_indexN sl_31 sz_48 rfl rfl (hl.adr (by omega)) (by omega)) ?_;clear H a;intro a H
   refine wq_yes H rfl rfl rfl rfl (fun _ S => (does_field_pt fo_48_1 rfl)) ?_;clear H a;intro a H
   refine wq_yes H rfl rfl rfl rfl (fun _ S => does_load one_3 rfl (hl.rd S (by omega) (by omega))) ?_;clear H a;intro a H
   refine wq_yes H rfl rfl rfl rfl (fun _ S => (does_field fo_30_6 rfl)) ?_;clear H a;intro a H
   refine wq_yes H rfl rfl rfl rfl (fun _ S => does_load one_27 rfl (boxM.rd S (i := 0) rfl rfl)) ?_;clear H a;intro a H
   refine wq_yes H rfl rfl rfl rfl (fun _ S => does_len sl_27 rfl) ?_;clear H a;intro a H
   refine wq_yes H rfl rfl rfl rfl (fun _ S => does_sub rfl rfl (by unfold i64ok; omega)) ?_;clear H a;intro a H
   refine wq_eff rfl ?_
   refine list_yes H rfl rfl ?_
   refine list_call H rfl rfl Try.func33 rfl rfl (rt_from _ _ _ _) ?_;clear H a
   rintro _ _ a ⟨rfl, rfl⟩ H
   refine wpList_nil (And.intro (S.sel [0] rfl rfl) ?_)
   refine wq_yes H rfl rfl rfl rfl (fun _ S => does_notw_f rfl (by omega)) ?_;clear H a;intro a H
   refine qF H <| qd rfl (fun _ S => (does_or rfl rfl rfl)) <| qr 1 rfl <| qK ?_;clear H a;intro a H
   refine wq_yes H rfl rfl rfl rfl (fun _ S => does_move rfl) ?_;clear H a;intro a H
   refine wq_yes H rfl rfl rfl rfl (fun _ S => does_move rfl) ?_;clear H a;intro a H
   refine wq_yes H rfl rfl rfl rfl (fun _ S => does_indexN sl_31 sz_48 rfl rfl (hl.adr (by omega)) (by omega)) ?_;clear H a;intro a H
   refine wq_yes H rfl rfl rfl rfl (fun _ S => (does_field_pt fo_48_2 rfl)) ?_;clear H a;intro a H
   refine wq_yes H rfl rfl rfl rfl (fun _ S => does_load one_3 rfl (hl.rd S (by omega) (by omega))) ?_;clear H a;intro a H
   refine wq_eff rfl ?_
   refine list_yes H rfl rfl ?_
   refine list_call H rfl rfl Try.func33 rfl rfl (rt_from _ _ _ _) ?_;clear H a
   rintro _ _ a ⟨rfl, rfl⟩ H
   refine wpList_nil (And.intro (S.sel [0] rfl rfl) ?_)
   refine wq_yes H rfl rfl rfl rfl (fun _ S => does_notw_f rfl (by omega)) ?_;clear H a;intro a H
   refine qF H <| qd rfl (fun _ S => (does_or rfl rfl rfl)) <| qr 1 rfl <| qK ?_;clear H a;intro a H
   refine wq_yes H rfl rfl rfl rfl (fun _ S => does_move rfl) ?_;clear H a;intro a H
   refine wq_yes H rfl rfl rfl rfl (fun _ S => does_gt_f rfl rfl (by omega)) ?_;clear H a;intro a H
   refine wq_yes H rfl rfl rfl rfl (fun _ S => does_move rfl) ?_;clear H a;intro a H
   refine wq_no H rfl rfl rfl rfl rfl ?_;clear H a;intro a H
   refine wq_no H rfl rfl rfl rfl rfl ?_;clear H a;intro a H
   refine wq_no H rfl rfl rfl rfl rfl ?_;clear H a;intro a H
   refine wq_no H rfl rfl rfl rfl rfl ?_;clear H a;intro a H
   refine wq_no H rfl rfl rfl rfl rfl ?_;clear H a;intro a H
   refine wq_no H rfl rfl rfl rfl rfl ?_;clear H a;intro a H
   refine wq_no H rfl rfl rfl rfl rfl ?_;clear H a;intro a H
   refine wq_no H rfl rfl rfl rfl rfl ?_;clear H a;intro a H
   refine wq_no H rfl rfl rfl rfl rfl ?_;clear H a;intro a H
   refine wq_no H rfl rfl rfl rfl rfl ?_;clear H a;intro a H
   refine wq_no H rfl rfl rfl rfl rfl ?_;clear H a;intro a H
   refine wq_yes H rfl rfl rfl rfl (fun _ S => (does_pick rfl rfl rfl)) ?_;clear H a;intro a H
   refine qF H <| qd rfl (fun _ S => (does_or rfl rfl rfl)) <| qK ?_;clear H a;intro a H
   refine wq_nil ?_
   refine k21 _ _ ?_
   clear k21 K21
   refine cond_ H rfl (fun hc7 => ?_) (fun hc7 => ?_)
   ·skip
    skip
    cases hc7
   skip
   refine wp_skip ?_
   refine k14 _ _ ?_
   replace H := H.keep [1, 2, 6] rfl
   refine sO H <| sr 1 rfl <| sd (does_add rfl rfl (by unfold i64ok; omega)) <| sr 1 rfl <| sE ?_;clear H a;intro a H
   exact k11 (g1 - 1) (k + 1) a _ (by omega) (by first | exact ⟨by omega, by omega, all_next (f := tskB y l) hp.2.2 (tsk_first hB)⟩ | exact ⟨by omega, by omega, all_next (f := tskB y l) hp.2.2 (tsk_later hB hc8)⟩) (S.sel [0] rfl rfl) (H.keep [6, 1, 2] rfl)
  skip
  replace H := H.keep [1, 2, 6] rfl
  replace S := S.drew
  refine seq_wq [(0, true), (1, true), (2, true), (3, true), (4, true), (5, true), (6, true), (7, true), (8, false), (9, true), (10, true), (11, true), (12, true), (13, true), (14, true), (15, true), (16, true), (17, true), (18, true), (19, true), (20, false), (21, true), (22, true), (23, true), (24, true), (25, true), (26, true), (27, true), (28, true), (29, false), (30, true), (31, true), (32, true), (33, true), (34, true), (35, true), (36, true), (37, true), (38, true), (39, true), (40, true), (41, true), (42, true), (43, true), (44, true), (45, false), (46, true), (47, true), (48, true)] (by kernel_rfl) (by kernel_rfl) (S.sel [0] rfl rfl) fun K23 k23 => ?_
  refine qF H <| qr 2 rfl <| qd rfl (fun _ S => does_indexN sl_31 sz_48 rfl rfl (hl.adr (by omega)) (by omega)) <| qd rfl (fun _ S => (does_field_pt fo_48_0 rfl)) <| qd rfl (fun _ S => does_load one_3 rfl (hl.rd S (by omega) (by omega))) <| qd rfl (fun _ S => (does_field fo_30_0 rfl)) <| qd rfl (fun _ S => does_load one_3 rfl (boxM.rd S (i := 0) rfl rfl)) <| qd rfl (fun _ S => does_sub rfl rfl (by unfold i64ok; omega)) <| qK ?_;clear H a;intro a H
  refine wq_eff rfl ?_
  refine list_call H rfl rfl Try.func33 rfl rfl (rt_from _ _ _ _) ?_;clear H a
  rintro _ _ a ⟨rfl, rfl⟩ H
  refine wpList_nil (And.intro (S.sel [0] rfl rfl) ?_)
  refine qF H <| qd rfl (fun _ S => does_notw_f rfl (by omega)) <| qr 1 rfl <| qK ?_;clear H a;intro a H
  refine wq_yes H rfl rfl rfl rfl (fun _ S => does_move rfl) ?_;clear H a;intro a H
  refine wq_yes H rfl rfl rfl rfl (fun _ S => does_move rfl) ?_;clear H a;intro a H
  refine wq_yes H rfl rfl rfl rfl (fun _ S => does_indexN sl_31 sz_48 rfl rfl (hl.adr (by omega)) (by omega)) ?_;clear H a;intro a H
  refine wq_yes H rfl rfl rfl rfl (fun _ S => (does_field_pt fo_48_1 rfl)) ?_;clear H a;intro a H
  refine wq_yes H rfl rfl rfl rfl (fun _ S => does_load one_3 rfl (hl.rd S (by omega) (by omega))) ?_;clear H a;intro a H
  refine wq_yes H rfl rfl rfl rfl (fun _ S => (does_field fo_30_6 rfl)) ?_;clear H a;intro a H
  refine wq_yes H rfl rfl rfl rfl (fun _ S => does_load one_27 rfl (boxM.rd S (i := 0) rfl rfl)) ?_;clear H a;intro a H
  refine wq_yes H rfl rfl rfl rfl (fun _ S => does_len sl_27 rfl) ?_;clear H a;intro a H
  refine wq_yes H rfl rfl rfl rfl (fun _ S => does_sub rfl rfl (by unfold i64ok; omega)) ?_;clear H a;intro a H
  refine wq_eff rfl ?_
  refine list_yes H rfl rfl ?_
  refine list_call H rfl rfl Try.func33 rfl rfl (rt_from _ _ _ _) ?_;clear H a
  rintro _ _ a ⟨rfl, rfl⟩ H
  refine wpList_nil (And.intro (S.sel [0] rfl rfl) ?_)
  refine wq_yes H rfl rfl rfl rfl (fun _ S => does_notw_f rfl (by omega)) ?_;clear H a;intro a H
  refine qF H <| qd rfl (fun _ S => (does_or rfl rfl rfl)) <| qr 1 rfl <| qK ?_;clear H a;intro a H
  refine wq_yes H rfl rfl rfl rfl (fun _ S => does_move rfl) ?_;clear H a;intro a H
  refine wq_yes H rfl rfl rfl rfl (fun _ S => does_move rfl) ?_;clear H a;intro a H
  refine wq_yes H rfl rfl rfl rfl (fun _ S => does_indexN sl_31 sz_48 rfl rfl (hl.adr (by omega)) (by omega)) ?_;clear H a;intro a H
  refine wq_yes H rfl rfl rfl rfl (fun _ S => (does_field_pt fo_48_2 rfl)) ?_;clear H a;intro a H
  refine wq_yes H rfl rfl rfl rfl (fun _ S => does_load one_3 rfl (hl.rd S (by omega) (by omega))) ?_;clear H a;intro a H
  refine wq_eff rfl ?_
  refine list_yes H rfl rfl ?_
  refine list_call H rfl rfl Try.func33 rfl rfl (rt_from _ _ _ _) ?_;clear H a
  rintro _ _ a ⟨rfl, rfl⟩ H
  refine wpList_nil (And.intro (S.sel [0] rfl rfl) ?_)
  refine wq_yes H rfl rfl rfl rfl (fun _ S => does_notw_f rfl (by omega)) ?_;clear H a;intro a H
  refine qF H <| qd rfl (fun _ S => (does_or rfl rfl rfl)) <| qr 1 rfl <| qK ?_;clear H a;intro a H
  refine wq_yes H rfl rfl rfl rfl (fun _ S => does_move rfl) ?_;clear H a;intro a H
  refine wq_yes H rfl rfl rfl rfl (fun _ S => does_gt_t rfl rfl (by omega)) ?_;clear H a;intro a H
  refine wq_yes H rfl rfl rfl rfl (fun _ S => does_move rfl) ?_;clear H a;intro a H
  refine wq_yes H rfl rfl rfl rfl (fun _ S => does_move rfl) ?_;clear H a;intro a H
  refine wq_yes H rfl rfl rfl rfl (fun _ S => does_move rfl) ?_;clear H a;intro a H
  refine wq_yes H rfl rfl rfl rfl (fun _ S => does_sub rfl rfl (by unfold i64ok; omega)) ?_;clear H a;intro a H
  refine wq_yes H rfl rfl rfl rfl (fun _ S => does_index sl_31 sz_48 rfl rfl (hl.adr (by omega)) (by omega) (by omega)) ?_;clear H a;intro a H
  refine wq_yes H rfl rfl rfl rfl (fun _ S => (does_loadIn agg_48 sz_48 rfl S hl (by omega) (by omega))) ?_;clear H a;intro a H
  refine wq_yes H rfl rfl rfl rfl (fun _ S => does_move rfl) ?_;clear H a;intro a H
  refine wq_yes H rfl rfl rfl rfl (fun _ S => does_move rfl) ?_;clear H a;intro a H
  refine wq_yes H rfl rfl rfl rfl (fun _ S => does_indexN sl_31 sz_48 rfl rfl (hl.adr (by omega)) (by omega)) ?_;clear H a;intro a H
  refine wq_yes H rfl rfl rfl rfl (fun _ S => (does_loadIn agg_48 sz_48 rfl S hl (by omega) (by omega))) ?_;clear H a;intro a H
  refine wq_eff rfl ?_
  refine list_yes H rfl rfl ?_
  refine list_call H rfl rfl Try.func34 rfl rfl (rt_before (l.getD ((k : Int) - 1).toNat Tsk.zero) (l.getD k Tsk.zero) _) ?_;clear H a
  rintro _ _ a ⟨rfl, S2⟩ H
  replace S := S.call S2;clear S2
  refine wpList_nil (And.intro (S.sel [0] rfl rfl) ?_)
  refine wq_yes H rfl rfl rfl rfl (fun _ S => does_not rfl) ?_;clear H a;intro a H
  refine wq_yes H rfl rfl rfl rfl (fun _ S => (does_and rfl rfl rfl)) ?_;clear H a;intro a H
  refine qF H <| qd rfl (fun _ S => (does_or rfl rfl rfl)) <| qK ?_;clear H a;intro a H
  refine wq_nil ?_
  refine k23 _ _ ?_
  clear k23 K23
  refine cond_ H rfl (fun hc8 => ?_) (fun hc8 => ?_)
  ·skip
   try simp only [o1,o2,o3,o4,o5,o6,o7,o8,o9,oa] at hc8
   replace hc8 : befB (l.getD ((k : Int) - 1).toNat Tsk.zero) (l.getD k Tsk.zero) = false := by simpa using hc8
   replace H := H.keep [] rfl
   refine sS H fun K24 k24=>sr 1 rfl <| sE ?_;clear H a;intro a H
   refine k24 _ ?_;clear k24 K24
   refine wp_ret ?_
   refine ret1 (fn := Try.f10) rfl H rfl ?_
   rw [taskE_bad hye (by omega) (show k < l.length by omega) (tsk_bad2 hB hc8)]; exact ⟨rfl, (S.sel [] rfl rfl)⟩
  try simp only [o1,o2,o3,o4,o5,o6,o7,o8,o9,oa] at hc8
  replace hc8 : befB (l.getD ((k : Int) - 1).toNat Tsk.zero) (l.getD k Tsk.zero) = true := by simpa using hc8
  refine wp_skip ?_
  refine k14 _ _ ?_
  refine sO H <| sr 1 rfl <| sd (does_add rfl rfl (by unfold i64ok; omega)) <| sr 1 rfl <| sE ?_;clear H a;intro a H
  exact k11 (g1 - 1) (k + 1) a _ (by omega) (by first | exact ⟨by omega, by omega, all_next (f := tskB y l) hp.2.2 (tsk_first hB)⟩ | exact ⟨by omega, by omega, all_next (f := tskB y l) hp.2.2 (tsk_later hB hc8)⟩) (S.sel [0] rfl rfl) (H.keep [6, 1, 2] rfl)
 refine wp_exit ?_
 refine k9 _ _ ?_
 refine sS H fun K26 k26=>sr 1 rfl <| sE ?_;clear H a;intro a H
 refine k26 _ ?_;clear k26 K26
 refine wp_ret ?_
 refine ret1 (fn := Try.f10) rfl H rfl ?_
 rw [taskE_ok hye (by omega) (allN_iff.2 fun q hq => hp.2.2 q (by omega))]; exact ⟨rfl, (S.sel [] rfl rfl)⟩

end Go.Proofs.Ytopmadlgolnmfaa
