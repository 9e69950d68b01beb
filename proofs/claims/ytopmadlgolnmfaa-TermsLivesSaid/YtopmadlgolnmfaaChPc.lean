/- ChPc. Printed by gen.py. -/
import Derived.Test.YtopmadlgolnmfaaChPb
namespace Go.Proofs.Ytopmadlgolnmfaa
open Go.RowKit
set_option linter.unusedVariables false
set_option linter.unusedSimpArgs false
set_option maxRecDepth 100000
set_option maxHeartbeats 4000000


theorem ref_CopyUses (l : List Use) (A : Option Addr) (cp : Nat) (w : World) (hl : InS w noF 6 A l.length (ucell l)) (hn : l.length * 48 ≤ 140737488351232) :
    Calls Try.prog 22 [.slice A l.length cp].toArray w (Ret (fun v w' => ∃ A' c', v = .slice A' l.length c' ∧ St w noF [ownM 72 6 A' l.length c' (ucell l)] w')) := by
 have hmx : maxLen = 9223372036854775807 := rfl
 refine enter Try.func22 rfl Try.ntmps22 rfl (fun a H => ?_)
 have S := St.start w
 refine sS H fun K1 k1=>sr 1 rfl <| sE ?_;clear H a;intro a H
 refine k1 _ ?_;clear k1 K1
 refine seq_list fun K2 k2 => ?_
 refine list_build0 H rfl S sl_63 sz_72 (ucell l) ?_;clear H a S;intro A1 _ a S H
 refine ls 1 H <| sr 1 rfl <| sE ?_;clear H a;intro a H
 refine list_append H rfl S sl_63 sz_72 ze_72 by_72 rfl rfl (i := 0) rfl rfl rfl (hl.now S) (ucell_ones l) (by omega) (by omega) ?_;clear H a S;intro A2 c2 _ a S H
 rw [Nat.zero_add] at H
 replace S := S.recell (i := 0) (cell' := ucell l) (by rw [Nat.zero_add]; rfl) (fun k j hk hj => by unfold capp; rw [if_neg (by omega)]; rfl)
 refine ls 1 H <| sr 1 rfl <| sE ?_;clear H a;intro a H
 refine k2 _ _ ?_;clear k2 K2
 refine wp_ret ?_
 refine ret1 (fn := Try.f22) rfl H rfl ?_
 exact ⟨_, _, rfl, (S.sel [0] rfl rfl)⟩

theorem ref_Copy (rates : List (Int × Int)) (pwn ptn pag : Int) (RA : Option Addr) (rcp : Nat) (w : World) (hr : InS w noF 2 RA rates.length (scell rates)) (hrn : rates.length * 16 ≤ 140737488351232) :
    Calls Try.prog 21 [.agg [.slice RA rates.length rcp, .int .i64 pwn, .int .i64 ptn, .int .i64 pag].toArray].toArray w (Ret (fun v w' => ∃ A' c', v = .agg [.slice A' rates.length c', .int .i64 pwn, .int .i64 ptn, .int .i64 pag].toArray ∧ St w noF [ownM 68 2 A' rates.length c' (scell rates)] w')) := by
 have hmx : maxLen = 9223372036854775807 := rfl
 refine enter Try.func21 rfl Try.ntmps21 rfl (fun a H => ?_)
 have S := St.start w
 refine seq_list fun K1 k1 => ?_
 refine list_box H rfl S rfl rfl ?_;clear H a S;intro b1 _ a hb1 hbw1 S H
 refine list_alloc H rfl S ze_62 ?_;clear H a S;intro b2 _ a hb2 hbw2 S H
 refine k1 _ _ ?_;clear k1 K1
 refine seq_list fun K2 k2 => ?_
 refine list_does H rfl ((by first | (exact does_loadBox agg_62 sz_62 rfl S (i := 0) rfl rfl; trace "ALT ref_Copy 1.0.1 0") | (exact does_loadBox agg_62 sz_62 rfl S (i := 1) rfl rfl; trace "ALT ref_Copy 1.0.1 1"))) ?_;clear H a;intro a H
 refine list_alloc H rfl S ze_62 ?_;clear H a S;intro b3 _ a hb3 hbw3 S H
 refine list_store H S (i := 0) rfl rfl rfl rfl sz_62 rfl rfl ?_
 clear H a S;intro _ a S H
 refine k2 _ _ ?_;clear k2 K2
 replace H := H.keep [1, 2, 3] rfl
 refine seq_list fun K3 k3 => ?_
 refine list_build0 H rfl S sl_58 sz_68 (scell rates) ?_;clear H a S;intro A1 _ a S H
 refine ls 2 H <| sf fo_62_0 rfl <| sl S 3 one_58 rfl rfl rfl <| sE ?_;clear H a;intro a H
 refine list_append H rfl S sl_58 sz_68 ze_68 by_68 rfl rfl (i := 0) rfl rfl rfl (hr.now S) (scell_ones rates) (by omega) (by omega) ?_;clear H a S;intro A2 c2 _ a S H
 rw [Nat.zero_add] at H
 replace S := S.recell (i := 0) (cell' := scell rates) (by rw [Nat.zero_add]; rfl) (fun k j hk hj => by unfold capp; rw [if_neg (by omega)]; rfl)
 refine ls 1 H <| sf fo_62_0 rfl <| sE ?_;clear H a;intro a H
 refine list_store H S (i := 1) rfl rfl rfl rfl sz_58 rfl rfl ?_
 clear H a S;intro _ a S H
 refine k3 _ _ ?_;clear k3 K3
 refine seq_list fun K4 k4 => ?_
 refine ls 1 H <| sd ((does_loadBox agg_62 sz_62 rfl S (i := 1) rfl rfl)) <| sE ?_;clear H a;intro a H
 refine list_store H S (i := 2) rfl rfl rfl rfl sz_62 rfl rfl ?_
 clear H a S;intro _ a S H
 refine k4 _ _ ?_;clear k4 K4
 refine wp_ret ?_
 refine retA (fn := Try.f21) rfl H rfl agg_62 (by exact sz_62) (boxAgg S (i := 2) rfl) ?_
 exact ⟨_, _, rfl, (S.sel [0] rfl rfl)⟩

theorem any_take {l : List Use} {k : Nat} (hk : k < l.length) (h : (l.take k).any (·.meas) = false) (hm : (l.getD k Use.zero).meas = false) : (l.take (k + 1)).any (·.meas) = false := by
  rw [List.take_succ_eq_append_getElem hk, List.any_append, h]
  simp only [List.getD_eq_getElem?_getD, List.getElem?_eq_getElem hk, Option.getD_some] at hm
  simp [hm]
theorem any_at {l : List Use} {k : Nat} (hk : k < l.length) (hm : (l.getD k Use.zero).meas = true) : l.any (·.meas) = true := by
  simp only [List.getD_eq_getElem?_getD, List.getElem?_eq_getElem hk, Option.getD_some] at hm
  exact List.any_eq_true.2 ⟨_, List.getElem_mem hk, hm⟩
theorem last_err {p : Part} {l plan : List Use} (h : checkP p (l ++ plan) ≠ 0) : lastO p l plan = (0, checkP p (l ++ plan)) := by unfold lastO; rw [if_pos h]
theorem last_arg {p : Part} {l plan : List Use} (h : checkP p (l ++ plan) = 0) (h1 : plan.any (·.meas) = true) : lastO p l plan = (0, 1) := by unfold lastO; rw [if_neg (by omega), if_pos h1]
theorem last_none {p : Part} {l plan : List Use} (h : checkP p (l ++ plan) = 0) (h1 : plan.any (·.meas) = false) (h2 : (beyondO p (l ++ plan) Prod.snd).2 ≠ 0) : lastO p l plan = (0, (beyondO p (l ++ plan) Prod.snd).2) := by unfold lastO; rw [if_neg (by omega), if_neg (by rw [h1]; simp), if_pos h2]
theorem last_is {p : Part} {l plan : List Use} (h : checkP p (l ++ plan) = 0) (h1 : plan.any (·.meas) = false) (h2 : (beyondO p (l ++ plan) Prod.snd).2 = 0) : lastO p l plan = if (beyondO p (l ++ plan) Prod.snd).1 < 0 then ((plan.length : Int), 0) else (max (-1) ((beyondO p (l ++ plan) Prod.snd).1 - l.length), 0) := by unfold lastO; rw [if_neg (by omega), if_neg (by rw [h1]; simp), if_neg (by omega)]
theorem beyond_bd {p : Part} {l : List Use} (e : Int × Int → Int) (hl : l.length ≤ 1000000) : -1 ≤ (beyondO p l e).1 ∧ (beyondO p l e).1 ≤ 1000000 := by
  unfold beyondO
  split
  · dsimp only; omega
  · dsimp only
    rcases firstO_cases (fun k => wornB p l k (e (wearAt p l k))) l.length with ⟨h, _⟩ | ⟨k, hk, h, _⟩ <;> rw [h] <;> omega
theorem chain_Last (rates : List (Int × Int)) (pwn ptn pag : Int) (RA : Option Addr) (rcp : Nat) (l : List Use) (A : Option Addr) (cp : Nat) (plan : List Use) (B : Option Addr) (cq : Nat) (w : World) (hr : InS w noF 2 RA rates.length (scell rates)) (hrn : rates.length ≤ 9223372036854775807) (hl : InS w noF 6 A l.length (ucell l)) (hn : l.length ≤ 9223372036854775807) (hpl : InS w noF 6 B plan.length (ucell plan)) (hsum : (l.length + plan.length) * 48 ≤ 140737488355328) (hpn : plan.length ≤ 9223372036854775807) :
    Calls Try.prog 20 [.agg [.slice RA rates.length rcp, .int .i64 pwn, .int .i64 ptn, .int .i64 pag].toArray, .slice A l.length cp, .slice B plan.length cq].toArray w (Ret (fun v w' => v = .tuple #[.int .i64 (lastO (⟨rates, pwn, ptn, pag⟩ : Part) l plan).1, .int .i64 (lastO (⟨rates, pwn, ptn, pag⟩ : Part) l plan).2] ∧ St w noF [] w')) := by
 have hmx : maxLen = 9223372036854775807 := rfl
 have hnn : (l ++ plan).length ≤ 9223372036854775807 := by rw [List.length_append]; omega
 refine enter Try.func20 rfl Try.ntmps20 rfl (fun a H => ?_)
 have S := St.start w
 refine seq_list fun K1 k1 => ?_
 refine list_box H rfl S rfl rfl ?_;clear H a S;intro b3 _ a hb3 hbw3 S H
 refine ls 2 H <| sr 2 rfl <| sE ?_;clear H a;intro a H
 refine k1 _ _ ?_;clear k1 K1
 refine seq_list fun K2 k2 => ?_
 refine list_build0 H rfl S sl_63 sz_72 (ucell l) ?_;clear H a S;intro A1 _ a S H
 refine ls 1 H <| sr 1 rfl <| sE ?_;clear H a;intro a H
 refine list_append H rfl S sl_63 sz_72 ze_72 by_72 rfl rfl (i := 0) rfl rfl rfl (hl.now S) (ucell_ones l) (by omega) (by omega) ?_;clear H a S;intro A2 c2 _ a S H
 rw [Nat.zero_add] at H
 replace S := S.recell (i := 0) (cell' := ucell l) (by rw [Nat.zero_add]; rfl) (fun k j hk hj => by unfold capp; rw [if_neg (by omega)]; rfl)
 refine ls 1 H <| sr 1 rfl <| sE ?_;clear H a;intro a H
 refine list_append H rfl S sl_63 sz_72 ze_72 by_72 rfl rfl (i := 0) rfl rfl rfl (hpl.now S) (ucell_ones plan) (by omega) (by omega) ?_;clear H a S;intro A3 c3 _ a S H
 replace S := S.recell (i := 0) rfl ucell_app
 rw [← List.length_append] at S H
 refine ls 1 H <| sr 1 rfl <| sE ?_;clear H a;intro a H
 refine k2 _ _ ?_;clear k2 K2
 refine wp_seq_k fun K3 k3 => ?_
 replace H := H.keep [1, 2, 3, 8] rfl
 refine seq_list fun K4 k4 => ?_
 refine ls 2 H <| sd ((does_loadBox agg_62 sz_62 rfl S (i := 1) rfl rfl)) <| sr 1 rfl <| sE ?_;clear H a;intro a H
 refine list_call H rfl rfl Try.func51 rfl rfl (chain_CheckPart rates pwn ptn pag RA rcp (l ++ plan) A3 c3 _ (hr.now S) hrn (ownM.inS S (i := 0) rfl) hnn) ?_;clear H a
 rintro _ _ a ⟨rfl, S2⟩ H
 replace S := S.call S2;clear S2
 refine ls 1 H <| sr 1 rfl <| sE ?_;clear H a;intro a H
 refine k4 _ _ ?_;clear k4 K4
 refine sS H fun K5 k5=>sr 2 rfl <| sE ?_;clear H a;intro a H
 refine k5 _ ?_;clear k5 K5
 refine condN H rfl (fun hc1 => ?_) (fun hc1 => ?_)
 ·skip
  refine sS H fun K6 k6=>sr 3 rfl <| sE ?_;clear H a;intro a H
  refine k6 _ ?_;clear k6 K6
  refine wp_ret ?_
  refine ret2 (fn := Try.f20) rfl H rfl rfl ?_
  rw [last_err (p := (⟨rates, pwn, ptn, pag⟩ : Part)) (by omega)]; exact ⟨rfl, (S.sel [] rfl rfl)⟩
 refine wp_skip ?_
 refine k3 _ _ ?_
 refine wp_seq_k fun K7 k7 => ?_
 have h0 : checkP (⟨rates, pwn, ptn, pag⟩ : Part) (l ++ plan) = 0 := by omega
 have hok := checkP_ok h0; have hll := hok.len; have hbb := beyond_bd (p := (⟨rates, pwn, ptn, pag⟩ : Part)) (l := l ++ plan) Prod.snd (by omega)
 rw [List.length_append] at hll
 replace H := H.keep [1, 2, 3, 8] rfl
 refine sS H fun K8 k8=>sr 1 rfl <| sL sl_63 rfl <| sr 1 rfl <| sE ?_;clear H a;intro a H
 refine k8 _ ?_;clear k8 K8
 refine wp_block ?_
 refine loop_st (X := Nat) (R0 := _) [1, 2, 3, 8, 25, 26] H rfl (fun k => [(27, .int .i64 (k : Int))]) (fun k => []) (fun g k => k ≤ plan.length ∧ g + k = plan.length ∧ (plan.take k).any (·.meas) = false) (plan.length) 0 ?_ (S.sel [0, 1] rfl rfl) (H.keep [27, 1, 2, 3, 8, 25, 26] rfl) ?_
 · exact ⟨by omega, by omega, rfl⟩
 clear H S a
 intro g1 x1 a w1 hp S H K9 k9
 obtain ⟨k, rfl⟩ : ∃ y, y = x1 := ⟨_, rfl⟩
 refine sS H fun K10 k10=>sr 1 rfl <| sE ?_;clear H a;intro a H
 refine k10 _ ?_;clear k10 K10
 refine wp_seq_k fun K11 k11 => ?_
 refine condL H rfl (fun hc2 => ?_) (fun hc2 => ?_)
 ·skip
  refine wp_skip ?_
  refine k11 _ _ ?_
  refine wp_seq_k fun K12 k12 => ?_
  refine wp_block ?_
  refine seq_list fun K13 k13 => ?_
  refine ls 2 H <| si sl_63 sz_72 rfl rfl (hpl.adr (by omega)) (by omega) <| sd ((does_loadIn agg_72 sz_72 rfl S hpl (by omega) (by omega))) <| sE ?_;clear H a;intro a H
  refine list_alloc H rfl S ze_72 ?_;clear H a S;intro b11 _ a hb11 hbw11 S H
  refine list_store H S (i := 0) rfl rfl rfl rfl sz_72 rfl rfl ?_
  clear H a S;intro _ a S H
  refine k13 _ _ ?_;clear k13 K13
  refine sS H fun K14 k14=>sf fo_72_3 rfl <| sl S 0 one_4 rfl rfl rfl <| sE ?_;clear H a;intro a H
  refine k14 _ ?_;clear k14 K14
  refine cond_ H rfl (fun hc3 => ?_) (fun hc3 => ?_)
  ·skip
   try simp only [o1,o2,o3,o4,o5,o6,o7,o8,o9,oa] at hc3
   refine sS H fun K15 k15=>sr 2 rfl <| sE ?_;clear H a;intro a H
   refine k15 _ ?_;clear k15 K15
   refine wp_ret ?_
   refine ret2 (fn := Try.f20) rfl H rfl rfl ?_
   rw [last_arg (p := (⟨rates, pwn, ptn, pag⟩ : Part)) h0 (any_at (k := k) (by omega) hc3)]; exact ⟨rfl, (S.sel [] rfl rfl)⟩
  try simp only [o1,o2,o3,o4,o5,o6,o7,o8,o9,oa] at hc3
  refine wp_skip ?_
  refine k12 _ _ ?_
  replace H := H.keep [1, 2, 3, 8, 25, 26, 27] rfl
  refine sO H <| sd (does_add rfl rfl (by unfold i64ok; omega)) <| sr 1 rfl <| sE ?_;clear H a;intro a H
  exact k9 (g1 - 1) (k + 1) a _ (by omega) (⟨by omega, by omega, any_take (by omega) hp.2.2 hc3⟩) (S.sel [1, 2] rfl rfl) (H.keep [27, 1, 2, 3, 8, 25, 26] rfl)
 refine wp_exit ?_
 refine k7 _ _ ?_
 have hk9 : k = plan.length := by omega
 have ha := hp.2.2; rw [hk9, List.take_length] at ha
 replace H := H.keep [1, 2, 3, 8] rfl
 refine seq_list fun K17 k17 => ?_
 refine ls 2 H <| sd ((does_loadBox agg_62 sz_62 rfl S (i := 1) rfl rfl)) <| sr 1 rfl <| sE ?_;clear H a;intro a H
 refine list_call H rfl rfl Try.func52 rfl rfl (chain_Beyond rates pwn ptn pag RA rcp (l ++ plan) A3 c3 _ (hr.now S) hrn (ownM.inS S (i := 0) rfl) hnn) ?_;clear H a
 rintro _ _ a ⟨rfl, S2⟩ H
 replace S := S.call S2;clear S2
 refine ls 5 H <| sr 5 rfl <| sE ?_;clear H a;intro a H
 refine k17 _ _ ?_;clear k17 K17
 refine wp_seq_k fun K18 k18 => ?_
 replace H := H.keep [1, 2, 12, 13] rfl
 refine sS H fun K19 k19=>sr 2 rfl <| sE ?_;clear H a;intro a H
 refine k19 _ ?_;clear k19 K19
 refine condN H rfl (fun hc4 => ?_) (fun hc4 => ?_)
 ·skip
  refine sS H fun K20 k20=>sr 3 rfl <| sE ?_;clear H a;intro a H
  refine k20 _ ?_;clear k20 K20
  refine wp_ret ?_
  refine ret2 (fn := Try.f20) rfl H rfl rfl ?_
  rw [last_none (p := (⟨rates, pwn, ptn, pag⟩ : Part)) h0 ha (by omega)]; exact ⟨rfl, (S.sel [] rfl rfl)⟩
 refine wp_skip ?_
 refine k18 _ _ ?_
 refine wp_seq_k fun K21 k21 => ?_
 refine wp_block ?_
 refine sS H fun K22 k22=>sr 3 rfl <| sE ?_;clear H a;intro a H
 refine k22 _ ?_;clear k22 K22
 refine condL H rfl (fun hc5 => ?_) (fun hc5 => ?_)
 ·skip
  replace H := H.keep [2] rfl
  refine sS H fun K23 k23=>sr 1 rfl <| sL sl_63 rfl <| sr 2 rfl <| sE ?_;clear H a;intro a H
  refine k23 _ ?_;clear k23 K23
  refine wp_ret ?_
  refine ret2 (fn := Try.f20) rfl H rfl rfl ?_
  rw [last_is (p := (⟨rates, pwn, ptn, pag⟩ : Part)) h0 ha (by omega), if_pos (by omega)]; exact ⟨rfl, (S.sel [] rfl rfl)⟩
 refine sS H fun K24 k24=>sr 2 rfl <| sL sl_63 rfl <| sr 2 rfl <| sE ?_;clear H a;intro a H
 refine k24 _ ?_;clear k24 K24
 refine condL H rfl (fun hc6 => ?_) (fun hc6 => ?_)
 ·skip
  replace H := H.keep [] rfl
  refine sS H fun K25 k25=>sr 2 rfl <| sE ?_;clear H a;intro a H
  refine k25 _ ?_;clear k25 K25
  refine wp_ret ?_
  refine ret2 (fn := Try.f20) rfl H rfl rfl ?_
  rw [last_is (p := (⟨rates, pwn, ptn, pag⟩ : Part)) h0 ha (by omega), if_neg (by omega), show max (-1) ((beyondO (⟨rates, pwn, ptn, pag⟩ : Part) (l ++ plan) Prod.snd).1 - (l.length : Int)) = -1 by omega]; exact ⟨rfl, (S.sel [] rfl rfl)⟩
 refine wp_skip ?_
 refine k21 _ _ ?_
 refine sS H fun K26 k26=>sr 2 rfl <| sL sl_63 rfl <| sd (does_sub rfl rfl (by unfold i64ok; omega)) <| sr 2 rfl <| sE ?_;clear H a;intro a H
 refine k26 _ ?_;clear k26 K26
 refine wp_ret ?_
 refine ret2 (fn := Try.f20) rfl H rfl rfl ?_
 rw [last_is (p := (⟨rates, pwn, ptn, pag⟩ : Part)) h0 ha (by omega), if_neg (by omega), show max (-1) ((beyondO (⟨rates, pwn, ptn, pag⟩ : Part) (l ++ plan) Prod.snd).1 - (l.length : Int)) = (beyondO (⟨rates, pwn, ptn, pag⟩ : Part) (l ++ plan) Prod.snd).1 - (l.length : Int) by omega]; exact ⟨rfl, (S.sel [] rfl rfl)⟩

end Go.Proofs.Ytopmadlgolnmfaa
