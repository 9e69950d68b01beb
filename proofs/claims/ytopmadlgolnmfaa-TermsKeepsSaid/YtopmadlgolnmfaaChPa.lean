/- ChPa. Printed by gen.py. -/
import Derived.Test.YtopmadlgolnmfaaChO
import Derived.Test.YtopmadlgolnmfaaPt
namespace Go.Proofs.Ytopmadlgolnmfaa
open Go.RowKit
set_option linter.unusedVariables false
set_option linter.unusedSimpArgs false
set_option maxRecDepth 100000
set_option maxHeartbeats 4000000


theorem prevD_nonneg {n : Nat} {l : List Use} : ∀ {k : Nat}, usesTo n l k = true → 0 ≤ prevD l k := by
  intro k
  induction k with
  | zero => intro _; exact Int.le_refl _
  | succ k ih =>
    intro h
    unfold usesTo at h
    rw [range_all_succ (n := 0), Bool.and_eq_true] at h
    have h1 := ih h.1
    have h2 := h.2
    unfold useOk at h2
    simp only [decide_eq_true_eq] at h2
    show 0 ≤ (l.getD k Use.zero).day
    omega
/-- What forward leaves. -/
def FwdR (w : World) (p : Part) (l : List Use) (v : Value) (w' : World) : Prop :=
  (atN p l = l.length ∧ ∃ A' c', v = .tuple #[.slice A' l.length c', .int .i64 (-1)] ∧ St w noF [ownM 68 2 A' l.length c' (fcell fun q => fwd p l (q + 1))] w') ∨ (atN p l < l.length ∧ v = .tuple #[.slice none 0 0, .int .i64 (atN p l : Int)] ∧ St w noF [] w')
theorem fwdR_yes {w : World} {p : Part} {l : List Use} {v : Value} {w' : World} (hA : atN p l = l.length) (h : FwdR w p l v w') : ∃ A' c', v = .tuple #[.slice A' l.length c', .int .i64 (-1)] ∧ St w noF [ownM 68 2 A' l.length c' (fcell fun q => fwd p l (q + 1))] w' := by
  rcases h with ⟨_, h⟩ | ⟨h, _⟩
  · exact h
  · omega
theorem fwdR_no {w : World} {p : Part} {l : List Use} {v : Value} {w' : World} (hA : atN p l < l.length) (h : FwdR w p l v w') : v = .tuple #[.slice none 0 0, .int .i64 (atN p l : Int)] ∧ St w noF [] w' := by
  rcases h with ⟨h, _⟩ | ⟨_, h⟩
  · omega
  · exact h
/-- What wear, Wear leave. -/
def WearR (w : World) (p : Part) (l : List Use) (v : Value) (w' : World) : Prop :=
  (wearE p l = 0 ∧ ∃ A' c', v = .tuple #[.slice A' l.length c', .int .i64 0] ∧ St w noF [ownM 68 2 A' l.length c' (fcell (wearAt p l))] w') ∨ (wearE p l ≠ 0 ∧ v = .tuple #[.slice none 0 0, .int .i64 (wearE p l)] ∧ St w noF [] w')
theorem wearR_yes {w : World} {p : Part} {l : List Use} {v : Value} {w' : World} (hA : wearE p l = 0) (h : WearR w p l v w') : ∃ A' c', v = .tuple #[.slice A' l.length c', .int .i64 0] ∧ St w noF [ownM 68 2 A' l.length c' (fcell (wearAt p l))] w' := by
  rcases h with ⟨_, h⟩ | ⟨h, _⟩
  · exact h
  · exact absurd hA h
theorem wearR_no {w : World} {p : Part} {l : List Use} {v : Value} {w' : World} (hA : wearE p l ≠ 0) (h : WearR w p l v w') : v = .tuple #[.slice none 0 0, .int .i64 (wearE p l)] ∧ St w noF [] w' := by
  rcases h with ⟨h, _⟩ | ⟨_, h⟩
  · exact absurd h hA
  · exact h
theorem ref_CheckPart (rates : List (Int × Int)) (pwn ptn pag : Int) (RA : Option Addr) (rcp : Nat) (l : List Use) (A : Option Addr) (cp : Nat) (w : World) (hr : InS w noF 2 RA rates.length (scell rates)) (hrn : rates.length ≤ 9223372036854775807) (hl : InS w noF 6 A l.length (ucell l)) (hn : l.length ≤ 9223372036854775807) :
    Calls Try.prog 74 [.agg [.slice RA rates.length rcp, .int .i64 pwn, .int .i64 ptn, .int .i64 pag].toArray, .slice A l.length cp].toArray w (Ret (fun v w' => v = .int .i64 (checkP (⟨rates, pwn, ptn, pag⟩ : Part) l) ∧ St w noF [] w')) := by
 refine enter Try.func74 rfl Try.ntmps74 rfl (fun a H => ?_)
 have S := St.start w
 refine seq_list fun K1 k1 => ?_
 refine list_box H rfl S rfl rfl ?_;clear H a S;intro b2 _ a hb2 hbw2 S H
 refine ls 1 H <| sr 1 rfl <| sE ?_;clear H a;intro a H
 refine k1 _ _ ?_;clear k1 K1
 refine wp_seq_k fun K2 k2 => ?_
 replace H := H.keep [1, 2] rfl
 refine sS H fun K3 k3=>sf fo_62_0 rfl <| sl S 0 one_58 rfl rfl rfl <| sL sl_58 rfl <| sc rfl Try.func95 rfl rfl (ref_from _ _ _ _) <| sr 2 rfl <| sg 4 5 13 17 false rfl rfl (fun hg6 => by
     have hq6 := hg6;try simp only [o1,o2,o3,o4,o5,o6,o7,o8,o9,oa] at hq6
     exact sy hg6 <| sf fo_62_1 rfl <| sy hg6 <| sl S 0 one_3 rfl rfl rfl <| sy hg6 <| sc rfl Try.func95 rfl rfl (ref_from _ _ _ _) <| sy hg6 <| sr 1 rfl <| sz 4 rfl rfl rfl) <| so rfl rfl rfl <| sr 1 rfl <| sg 4 11 19 23 false rfl rfl (fun hg12 => by
     have hq12 := hg12;try simp only [o1,o2,o3,o4,o5,o6,o7,o8,o9,oa] at hq12
     exact sy hg12 <| sf fo_62_2 rfl <| sy hg12 <| sl S 0 one_3 rfl rfl rfl <| sy hg12 <| sc rfl Try.func95 rfl rfl (ref_from _ _ _ _) <| sy hg12 <| sr 1 rfl <| sz 4 rfl rfl rfl) <| so rfl rfl rfl <| sr 1 rfl <| sg 4 17 25 29 false rfl rfl (fun hg18 => by
     have hq18 := hg18;try simp only [o1,o2,o3,o4,o5,o6,o7,o8,o9,oa] at hq18
     exact sy hg18 <| sf fo_62_3 rfl <| sy hg18 <| sl S 0 one_3 rfl rfl rfl <| sy hg18 <| sc rfl Try.func95 rfl rfl (ref_from _ _ _ _) <| sy hg18 <| sr 1 rfl <| sz 4 rfl rfl rfl) <| so rfl rfl rfl <| sE ?_;clear H a;intro a H
 refine k3 _ ?_;clear k3 K3
 refine cond_ H rfl (fun hc1 => ?_) (fun hc1 => ?_)
 ·skip
  try simp only [o1,o2,o3,o4,o5,o6,o7,o8,o9,oa] at hc1
  replace H := H.keep [] rfl
  refine sS H fun K4 k4=>sr 1 rfl <| sE ?_;clear H a;intro a H
  refine k4 _ ?_;clear k4 K4
  refine wp_ret ?_
  refine ret1 (fn := Try.f74) rfl H rfl ?_
  refine ⟨?_, (S.sel [] rfl rfl)⟩; unfold checkP; rw [if_neg (by unfold partHdr; simp only [decide_eq_true_eq]; omega)]
 try simp only [o1,o2,o3,o4,o5,o6,o7,o8,o9,oa] at hc1
 refine wp_skip ?_
 refine k2 _ _ ?_
 refine wp_seq_k fun K5 k5 => ?_
 have hhd : partHdr (⟨rates, pwn, ptn, pag⟩ : Part) = true := by unfold partHdr; simp only [decide_eq_true_eq]; omega
 refine sS H fun K6 k6=>sr 1 rfl <| sE ?_;clear H a;intro a H
 refine k6 _ ?_;clear k6 K6
 refine wp_block ?_
 refine loop_st (X := Nat) (R0 := _) [1, 2] H rfl (fun k => [(5, .int .i64 (k : Int))]) (fun k => []) (fun g k => k ≤ rates.length ∧ g + k = rates.length ∧ (rates.take k).all rateOk = true) (rates.length) 0 ?_ (S.sel [0] rfl rfl) (H.keep [5, 1, 2] rfl) ?_
 · exact ⟨by omega, by omega, by simp⟩
 clear H S a
 intro g1 x1 a w1 hp S H K7 k7
 obtain ⟨k, rfl⟩ : ∃ y, y = x1 := ⟨_, rfl⟩
 refine wp_seq_k fun K8 k8 => ?_
 refine sS H fun K9 k9=>sr 1 rfl <| sf fo_62_0 rfl <| sl S 0 one_58 rfl rfl rfl <| sL sl_58 rfl <| sr 1 rfl <| sE ?_;clear H a;intro a H
 refine k9 _ ?_;clear k9 K9
 refine condL H rfl (fun hc2 => ?_) (fun hc2 => ?_)
 ·skip
  refine wp_skip ?_
  refine k8 _ _ ?_
  refine wp_seq_k fun K10 k10 => ?_
  refine wp_block ?_
  replace H := H.keep [1, 2, 5] rfl
  replace S := S.drew
  refine sD H fun K11 k11=>sf fo_62_0 rfl <| sl S 0 one_58 rfl rfl rfl <| sr 1 rfl <| si sl_58 sz_68 rfl rfl (hr.adr (by omega)) (by omega) <| sp fo_68_0 rfl <| slm one_3 rfl (hr.rd S (by omega) (by omega)) <| sf fo_62_0 rfl <| sl S 0 one_58 rfl rfl rfl <| sr 1 rfl <| si sl_58 sz_68 rfl rfl (hr.adr (by omega)) (by omega) <| sp fo_68_1 rfl <| slm one_3 rfl (hr.rd S (by omega) (by omega)) <| sc rfl Try.func95 rfl rfl (ref_from _ _ _ _) <| sr 2 rfl <| sg 7 14 52 59 false rfl rfl (fun hg15 => by
      have hq15 := hg15;try simp only [o1,o2,o3,o4,o5,o6,o7,o8,o9,oa] at hq15
      exact sy hg15 <| sf fo_62_0 rfl <| sy hg15 <| sl S 0 one_58 rfl rfl rfl <| sy hg15 <| sr 1 rfl <| sy hg15 <| si sl_58 sz_68 rfl rfl (hr.adr (by omega)) (by omega) <| sy hg15 <| sp fo_68_1 rfl <| sy hg15 <| slm one_3 rfl (hr.rd S (by omega) (by omega)) <| sy hg15 <| sr 1 rfl <| sz 7 rfl rfl rfl) <| so rfl rfl rfl <| sE ?_;clear H a;intro a H
  refine k11 _ ?_;clear k11 K11
  refine cond_ H rfl (fun hc3 => ?_) (fun hc3 => ?_)
  ·skip
   try simp only [o1,o2,o3,o4,o5,o6,o7,o8,o9,oa] at hc3
   replace H := H.keep [] rfl
   refine sS H fun K12 k12=>sr 1 rfl <| sE ?_;clear H a;intro a H
   refine k12 _ ?_;clear k12 K12
   refine wp_ret ?_
   refine ret1 (fn := Try.f74) rfl H rfl ?_
   refine ⟨?_, (S.sel [] rfl rfl)⟩; unfold checkP; rw [if_pos hhd]; (try dsimp only); rw [all_false (k := k) (d := (0, 0)) (by omega) (by unfold rateOk; simp only [decide_eq_false_iff_not]; omega)]; rfl
  try simp only [o1,o2,o3,o4,o5,o6,o7,o8,o9,oa] at hc3
  refine wp_skip ?_
  refine k10 _ _ ?_
  refine sO H <| sr 1 rfl <| sd (does_add rfl rfl (by unfold i64ok; omega)) <| sr 1 rfl <| sE ?_;clear H a;intro a H
  exact k7 (g1 - 1) (k + 1) a _ (by omega) (⟨by omega, by omega, all_take (d := (0, 0)) (by omega) hp.2.2 (by unfold rateOk; simp only [decide_eq_true_eq]; omega)⟩) (S.sel [0] rfl rfl) (H.keep [5, 1, 2] rfl)
 refine wp_exit ?_
 refine k5 _ _ ?_
 refine wp_seq_k fun K14 k14 => ?_
 have hrt : rates.all rateOk = true := by have h9 := hp.2.2; rw [List.take_of_length_le (by omega)] at h9; exact h9
 refine sS H fun K15 k15=>sr 1 rfl <| sL sl_63 rfl <| sr 1 rfl <| sE ?_;clear H a;intro a H
 refine k15 _ ?_;clear k15 K15
 refine condL H rfl (fun hc4 => ?_) (fun hc4 => ?_)
 ·skip
  refine sS H fun K16 k16=>sr 1 rfl <| sE ?_;clear H a;intro a H
  refine k16 _ ?_;clear k16 K16
  refine wp_ret ?_
  refine ret1 (fn := Try.f74) rfl H rfl ?_
  refine ⟨?_, (S.sel [] rfl rfl)⟩; unfold checkP; rw [if_pos hhd, if_pos hrt, if_neg (by omega)]
 refine wp_skip ?_
 refine k14 _ _ ?_
 refine wp_seq_k fun K17 k17 => ?_
 refine sS H fun K18 k18=>sr 1 rfl <| sE ?_;clear H a;intro a H
 refine k18 _ ?_;clear k18 K18
 refine wp_block ?_
 refine loop_st (X := Nat) (R0 := _) [1, 2] H rfl (fun j => [(6, .int .i64 (j : Int))]) (fun j => []) (fun g j => j ≤ l.length ∧ g + j = l.length ∧ usesTo rates.length l j = true) (l.length) 0 ?_ (S.sel [0] rfl rfl) (H.keep [6, 1, 2] rfl) ?_
 · exact ⟨by omega, by omega, rfl⟩
 clear H S a
 intro g2 x2 a w2 hp S H K19 k19
 obtain ⟨j, rfl⟩ : ∃ y, y = x2 := ⟨_, rfl⟩
 refine wp_seq_k fun K20 k20 => ?_
 refine sS H fun K21 k21=>sr 2 rfl <| sL sl_63 rfl <| sr 1 rfl <| sE ?_;clear H a;intro a H
 refine k21 _ ?_;clear k21 K21
 refine condL H rfl (fun hc5 => ?_) (fun hc5 => ?_)
 ·skip
  refine wp_skip ?_
  refine k20 _ _ ?_
  refine wp_seq_k fun K22 k22 => ?_
  refine wp_block ?_
  replace H := H.keep [1, 2, 6] rfl
  refine seq_list fun K23 k23 => ?_
  refine ls 4 H <| sr 2 rfl <| si sl_63 sz_72 rfl rfl (hl.adr (by omega)) (by omega) <| sd ((does_loadIn agg_72 sz_72 rfl S hl (by omega) (by omega))) <| sE ?_;clear H a;intro a H
  refine list_alloc H rfl S ze_72 ?_;clear H a S;intro b7 _ a hb7 hbw7 S H
  refine list_store H S (i := 0) rfl rfl rfl rfl sz_72 rfl rfl ?_
  clear H a S;intro _ a S H
  refine k23 _ _ ?_;clear k23 K23
  refine wp_seq_k fun K24 k24 => ?_
  have hpd : prevD l j = if 0 < j then (l.getD (j - 1) Use.zero).day else 0 := by cases j with | zero => rfl | succ q => rfl
  have hj9 : ((j : Int) - 1).toNat = j - 1 := by omega
  have hpn := prevD_nonneg hp.2.2
  replace H := H.keep [1, 2, 6, 7] rfl
  replace S := S.drew
  refine sD H fun K25 k25=>sf fo_72_0 rfl <| sl S 0 one_3 rfl rfl rfl <| sc rfl Try.func95 rfl rfl (ref_from _ _ _ _) <| sr 2 rfl <| sg 13 4 78 91 false rfl rfl (fun hg5 => by
      have hq5 := hg5;try simp only [o1,o2,o3,o4,o5,o6,o7,o8,o9,oa] at hq5
      exact sy hg5 <| sr 1 rfl <| sy hg5 <| sr 1 rfl <| sy hg5 <| sr 1 rfl <| sg 9 7 81 90 true rfl rfl (fun hg8 => by
           have hq8 := hg8;try simp only [o1,o2,o3,o4,o5,o6,o7,o8,o9,oa] at hq8
           exact sy hg8 <| sf fo_72_0 rfl <| sy hg8 <| sl S 0 one_3 rfl rfl rfl <| sy hg8 <| sr 1 rfl <| sy hg8 <| sr 1 rfl <| sy hg8 <| sd (does_sub rfl rfl (by unfold i64ok; omega)) <| sy hg8 <| sI sl_63 sz_72 rfl rfl (hl.adr (by omega)) (by omega) (by omega) <| sy hg8 <| sp fo_72_0 rfl <| sy hg8 <| slm one_3 rfl (hl.rd S (by omega) (by omega)) <| sy hg8 <| sr 1 rfl <| sz 9 rfl rfl rfl) <| sy hg5 <| sa rfl rfl rfl <| sz 5 rfl rfl rfl) <| so rfl rfl rfl <| sr 1 rfl <| sg 4 19 93 97 false rfl rfl (fun hg20 => by
      have hq20 := hg20;try simp only [o1,o2,o3,o4,o5,o6,o7,o8,o9,oa] at hq20
      exact sy hg20 <| sf fo_72_1 rfl <| sy hg20 <| sl S 0 one_3 rfl rfl rfl <| sy hg20 <| sc rfl Try.func95 rfl rfl (ref_from _ _ _ _) <| sy hg20 <| sr 1 rfl <| sz 4 rfl rfl rfl) <| so rfl rfl rfl <| sr 1 rfl <| sg 8 25 99 107 false rfl rfl (fun hg26 => by
      have hq26 := hg26;try simp only [o1,o2,o3,o4,o5,o6,o7,o8,o9,oa] at hq26
      exact sy hg26 <| sf fo_72_2 rfl <| sy hg26 <| sl S 0 one_3 rfl rfl rfl <| sy hg26 <| sf fo_62_0 rfl <| sy hg26 <| sl S 1 one_58 rfl rfl rfl <| sy hg26 <| sL sl_58 rfl <| sy hg26 <| sd (does_sub rfl rfl (by unfold i64ok; omega)) <| sy hg26 <| sc rfl Try.func95 rfl rfl (ref_from _ _ _ _) <| sy hg26 <| sr 1 rfl <| sz 8 rfl rfl rfl) <| so rfl rfl rfl <| sE ?_;clear H a;intro a H
  refine k25 _ ?_;clear k25 K25
  refine cond_ H rfl (fun hc6 => ?_) (fun hc6 => ?_)
  ·skip
   try simp only [o1,o2,o3,o4,o5,o6,o7,o8,o9,oa] at hc6
   rw [hj9] at hc6
   replace H := H.keep [] rfl
   refine sS H fun K26 k26=>sr 1 rfl <| sE ?_;clear H a;intro a H
   refine k26 _ ?_;clear k26 K26
   refine wp_ret ?_
   refine ret1 (fn := Try.f74) rfl H rfl ?_
   refine ⟨?_, (S.sel [] rfl rfl)⟩; unfold checkP; rw [if_pos hhd, if_pos hrt, if_pos (by omega)]; unfold usesTo; rw [range_all_false (k := j) (by omega) (by unfold useOk; simp only [decide_eq_false_iff_not]; rw [hpd]; omega)]; rfl
  try simp only [o1,o2,o3,o4,o5,o6,o7,o8,o9,oa] at hc6
  rw [hj9] at hc6
  refine wp_skip ?_
  refine k24 _ _ ?_
  replace H := H.keep [1, 2, 6, 7] rfl
  refine sS H fun K27 k27=>sf fo_72_3 rfl <| sl S 0 one_4 rfl rfl rfl <| sr 1 rfl <| sg 14 2 111 125 true rfl rfl (fun hg3 => by
      have hq3 := hg3;try simp only [o1,o2,o3,o4,o5,o6,o7,o8,o9,oa] at hq3
      exact sy hg3 <| sf fo_72_4 rfl <| sy hg3 <| sf fo_68_0 rfl <| sy hg3 <| sl S 0 one_3 rfl rfl rfl <| sy hg3 <| sf fo_72_4 rfl <| sy hg3 <| sf fo_68_1 rfl <| sy hg3 <| sl S 0 one_3 rfl rfl rfl <| sy hg3 <| sc rfl Try.func95 rfl rfl (ref_from _ _ _ _) <| sy hg3 <| sr 1 rfl <| sy hg3 <| sr 1 rfl <| sg 4 11 120 124 false rfl rfl (fun hg12 => by
           have hq12 := hg12;try simp only [o1,o2,o3,o4,o5,o6,o7,o8,o9,oa] at hq12
           exact sy hg12 <| sf fo_72_4 rfl <| sy hg12 <| sf fo_68_1 rfl <| sy hg12 <| sl S 0 one_3 rfl rfl rfl <| sy hg12 <| sr 1 rfl <| sz 4 rfl rfl rfl) <| sy hg3 <| so rfl rfl rfl <| sz 11 rfl rfl rfl) <| sa rfl rfl rfl <| sr 1 rfl <| sg 9 18 127 136 false rfl rfl (fun hg19 => by
      have hq19 := hg19;try simp only [o1,o2,o3,o4,o5,o6,o7,o8,o9,oa] at hq19
      exact sy hg19 <| sf fo_72_3 rfl <| sy hg19 <| sl S 0 one_4 rfl rfl rfl <| sy hg19 <| sr 1 rfl <| sy hg19 <| sr 1 rfl <| sg 4 22 131 135 true rfl rfl (fun hg23 => by
           have hq23 := hg23;try simp only [o1,o2,o3,o4,o5,o6,o7,o8,o9,oa] at hq23
           exact sy hg23 <| sf fo_72_4 rfl <| sy hg23 <| sd ((does_loadBox agg_68 sz_68 rfl S (i := 0) rfl rfl)) <| sy hg23 <| sd (does_build bt_68 rfl rfl) <| sy hg23 <| sd (does_neq_span rfl rfl) <| sz 4 rfl rfl rfl) <| sy hg19 <| sa rfl rfl rfl <| sz 6 rfl rfl rfl) <| so rfl rfl rfl <| sE ?_;clear H a;intro a H
  refine k27 _ ?_;clear k27 K27
  refine cond_ H rfl (fun hc7 => ?_) (fun hc7 => ?_)
  ·skip
   try simp only [o1,o2,o3,o4,o5,o6,o7,o8,o9,oa] at hc7
   replace H := H.keep [] rfl
   refine sS H fun K28 k28=>sr 1 rfl <| sE ?_;clear H a;intro a H
   refine k28 _ ?_;clear k28 K28
   refine wp_ret ?_
   refine ret1 (fn := Try.f74) rfl H rfl ?_
   refine ⟨?_, (S.sel [] rfl rfl)⟩; unfold checkP; rw [if_pos hhd, if_pos hrt, if_pos (by omega)]; unfold usesTo; rw [range_all_false (k := j) (by omega) (by unfold useOk; simp only [decide_eq_false_iff_not]; generalize l.getD j Use.zero = u at hc6 hc7 ⊢; rintro ⟨_, _, _, _, hm⟩; cases hq : u.meas <;> simp [hq] at hc7 hm <;> omega)]; rfl
  try simp only [o1,o2,o3,o4,o5,o6,o7,o8,o9,oa] at hc7
  refine wp_skip ?_
  refine k22 _ _ ?_
  refine sO H <| sr 1 rfl <| sd (does_add rfl rfl (by unfold i64ok; omega)) <| sr 1 rfl <| sE ?_;clear H a;intro a H
  exact k19 (g2 - 1) (j + 1) a _ (by omega) (⟨by omega, by omega, by unfold usesTo; rw [range_all_succ (n := 0)]; have h9 := hp.2.2; unfold usesTo at h9; rw [h9]; simp only [Bool.true_and]; unfold useOk; simp only [decide_eq_true_eq]; rw [hpd] at hpn ⊢; generalize (l.getD (j - 1) Use.zero).day = pd at hc6 hpn ⊢; generalize l.getD j Use.zero = u at hc6 hc7 ⊢; cases hq : u.meas <;> simp [hq] at hc7 ⊢ <;> omega⟩) (S.sel [1] rfl rfl) (H.keep [6, 1, 2] rfl)
 refine wp_exit ?_
 refine k17 _ _ ?_
 refine sS H fun K30 k30=>sr 1 rfl <| sE ?_;clear H a;intro a H
 refine k30 _ ?_;clear k30 K30
 refine wp_ret ?_
 refine ret1 (fn := Try.f74) rfl H rfl ?_
 refine ⟨?_, (S.sel [] rfl rfl)⟩; have hj9 : j = l.length := by omega
 unfold checkP; rw [if_pos hhd, if_pos hrt, if_pos (by omega)]; rw [hj9] at hp; dsimp only; rw [if_pos hp.2.2]

theorem ref_grown (rates : List (Int × Int)) (pwn ptn pag : Int) (RA : Option Addr) (rcp : Nat) (s1 s2 : Int) (u : Use) (w : World) (hr : InS w noF 2 RA rates.length (scell rates)) (hrn : rates.length ≤ 9223372036854775807) (hcl : 0 ≤ u.cls ∧ u.cls < rates.length) (hg1 : i64ok (grownS (⟨rates, pwn, ptn, pag⟩ : Part) u).1) (hg2 : i64ok (grownS (⟨rates, pwn, ptn, pag⟩ : Part) u).2) (hg3 : i64ok (s1 + (grownS (⟨rates, pwn, ptn, pag⟩ : Part) u).1)) (hg4 : i64ok (s2 + (grownS (⟨rates, pwn, ptn, pag⟩ : Part) u).2)) :
    Calls Try.prog 106 [.agg [.slice RA rates.length rcp, .int .i64 pwn, .int .i64 ptn, .int .i64 pag].toArray, .agg [.int .i64 s1, .int .i64 s2].toArray, .agg [.int .i64 u.day, .int .i64 u.turns, .int .i64 u.cls, .bool u.meas, .int .i64 u.lo, .int .i64 u.hi].toArray].toArray w (Ret (fun v w' => v = .agg [.int .i64 (fstep (⟨rates, pwn, ptn, pag⟩ : Part) (s1, s2) u).1, .int .i64 (fstep (⟨rates, pwn, ptn, pag⟩ : Part) (s1, s2) u).2].toArray ∧ St w noF [] w')) := by
 refine enter Try.func106 rfl Try.ntmps106 rfl (fun a H => ?_)
 have S := St.start w
 refine seq_list fun K1 k1 => ?_
 refine list_box H rfl S rfl rfl ?_;clear H a S;intro b3 _ a hb3 hbw3 S H
 refine list_box H rfl S rfl rfl ?_;clear H a S;intro b4 _ a hb4 hbw4 S H
 refine list_box H rfl S rfl rfl ?_;clear H a S;intro b5 _ a hb5 hbw5 S H
 refine list_alloc H rfl S ze_68 ?_;clear H a S;intro b6 _ a hb6 hbw6 S H
 refine k1 _ _ ?_;clear k1 K1
 replace H := H.keep [3, 4, 5, 6] rfl
 refine seq_list fun K2 k2 => ?_
 refine ls 6 H <| sf fo_62_0 rfl <| sl S 3 one_58 rfl rfl rfl <| sf fo_72_2 rfl <| sl S 1 one_3 rfl rfl rfl <| sI sl_58 sz_68 rfl rfl (hr.adr (by omega)) (by omega) (by omega) <| sd ((does_loadIn agg_68 sz_68 rfl S hr (by omega) (by omega))) <| sE ?_;clear H a;intro a H
 refine list_alloc H rfl S ze_68 ?_;clear H a S;intro b7 _ a hb7 hbw7 S H
 refine list_store H S (i := 0) rfl rfl rfl rfl sz_68 rfl rfl ?_
 clear H a S;intro _ a S H
 refine k2 _ _ ?_;clear k2 K2
 replace H := H.keep [4, 5, 6, 7] rfl
 refine seq_list fun K3 k3 => ?_
 refine ls 17 H <| sf fo_68_0 rfl <| sl S 3 one_3 rfl rfl rfl <| sf fo_72_1 rfl <| sl S 2 one_3 rfl rfl rfl <| sf fo_68_0 rfl <| sl S 0 one_3 rfl rfl rfl <| sd (does_mul rfl rfl (by exact hg1)) <| sd (does_add rfl rfl (by exact hg3)) <| sf fo_68_1 rfl <| sl S 3 one_3 rfl rfl rfl <| sf fo_72_1 rfl <| sl S 2 one_3 rfl rfl rfl <| sf fo_68_1 rfl <| sl S 0 one_3 rfl rfl rfl <| sd (does_mul rfl rfl (by exact hg2)) <| sd (does_add rfl rfl (by exact hg4)) <| sd (does_build bt_68 rfl rfl) <| sE ?_;clear H a;intro a H
 refine list_alloc H rfl S ze_68 ?_;clear H a S;intro b8 _ a hb8 hbw8 S H
 refine list_store H S (i := 0) rfl rfl rfl rfl sz_68 rfl rfl ?_
 clear H a S;intro _ a S H
 refine k3 _ _ ?_;clear k3 K3
 have SR := (S.sel [1, 2, 3, 4, 5] rfl rfl)
 refine meet_sr (X := Unit) [6, 8] H rfl (fun x => []) (fun x => [boxM b8 68 [.int .i64 (fstep (⟨rates, pwn, ptn, pag⟩ : Part) (s1, s2) u).1, .int .i64 (fstep (⟨rates, pwn, ptn, pag⟩ : Part) (s1, s2) u).2]]) (fun x => True) SR (fun K5 k5 => ?_) ?_
 ·skip
  replace H := H.keep [5, 6, 8] rfl
  refine sS H fun K6 k6=>sf fo_72_3 rfl <| sl S 3 one_4 rfl rfl rfl <| sE ?_;clear H a;intro a H
  refine k6 _ ?_;clear k6 K6
  refine cond_ H rfl (fun hc1 => ?_) (fun hc1 => ?_)
  ·skip
   try simp only [o1,o2,o3,o4,o5,o6,o7,o8,o9,oa] at hc1
   replace H := H.keep [5, 6, 8] rfl
   refine one_list ?_
   refine ls 13 H <| sf fo_68_0 rfl <| sl S 0 one_3 rfl rfl rfl <| sf fo_72_4 rfl <| sf fo_68_0 rfl <| sl S 3 one_3 rfl rfl rfl <| sd (does_max rfl rfl) <| sf fo_68_1 rfl <| sl S 0 one_3 rfl rfl rfl <| sf fo_72_4 rfl <| sf fo_68_1 rfl <| sl S 3 one_3 rfl rfl rfl <| sd (does_min rfl rfl) <| sd (does_build bt_68 rfl rfl) <| sE ?_;clear H a;intro a H
   refine list_store H S (i := 0) rfl rfl rfl rfl sz_68 rfl rfl ?_
   clear H a S;intro _ a S H
   have e9 : fstep (⟨rates, pwn, ptn, pag⟩ : Part) (s1, s2) u = meetS (addS (s1, s2) (grownS (⟨rates, pwn, ptn, pag⟩ : Part) u)) (u.lo, u.hi) := by unfold fstep; rw [if_pos hc1]
   replace S := boxM.same S (i := 0) (cs' := [.int .i64 (fstep (⟨rates, pwn, ptn, pag⟩ : Part) (s1, s2) u).1, .int .i64 (fstep (⟨rates, pwn, ptn, pag⟩ : Part) (s1, s2) u).2]) rfl (by rw [e9]; rfl)
   exact k5 () a _ (trivial) (S.sel [0, 1, 2, 3, 4, 5] rfl rfl) (H.keep [6, 8] rfl)
  try simp only [o1,o2,o3,o4,o5,o6,o7,o8,o9,oa] at hc1
  refine wp_skip ?_
  have e9 : fstep (⟨rates, pwn, ptn, pag⟩ : Part) (s1, s2) u = addS (s1, s2) (grownS (⟨rates, pwn, ptn, pag⟩ : Part) u) := by unfold fstep; rw [if_neg (by rw [hc1]; simp)]
  replace S := boxM.same S (i := 0) (cs' := [.int .i64 (fstep (⟨rates, pwn, ptn, pag⟩ : Part) (s1, s2) u).1, .int .i64 (fstep (⟨rates, pwn, ptn, pag⟩ : Part) (s1, s2) u).2]) rfl (by rw [e9]; rfl)
  exact k5 () a _ (trivial) (S.sel [0, 1, 2, 3, 4, 5] rfl rfl) (H.keep [6, 8] rfl)
 clear SR H S a
 intro xm a wm hp S H
 obtain ⟨x, rfl⟩ : ∃ y, y = xm := ⟨_, rfl⟩
 replace H := H.keep [6, 8] rfl
 refine seq_list fun K8 k8 => ?_
 refine ls 1 H <| sd ((does_loadBox agg_68 sz_68 rfl S (i := 0) rfl rfl)) <| sE ?_;clear H a;intro a H
 refine list_store H S (i := 2) rfl rfl rfl rfl sz_68 rfl rfl ?_
 clear H a S;intro _ a S H
 refine k8 _ _ ?_;clear k8 K8
 refine wp_ret ?_
 refine retA (fn := Try.f106) rfl H rfl agg_68 (by exact sz_68) (boxAgg S (i := 2) rfl) ?_
 exact ⟨rfl, (S.sel [] rfl rfl)⟩

theorem ref_forward (rates : List (Int × Int)) (pwn ptn pag : Int) (RA : Option Addr) (rcp : Nat) (l : List Use) (A : Option Addr) (cp : Nat) (w : World) (hr : InS w noF 2 RA rates.length (scell rates)) (hrn : rates.length ≤ 9223372036854775807) (hl : InS w noF 6 A l.length (ucell l)) (hn : l.length ≤ 9223372036854775807) (hok : PartOk (⟨rates, pwn, ptn, pag⟩ : Part) l) :
    Calls Try.prog 96 [.agg [.slice RA rates.length rcp, .int .i64 pwn, .int .i64 ptn, .int .i64 pag].toArray, .slice A l.length cp].toArray w (Ret (FwdR w (⟨rates, pwn, ptn, pag⟩ : Part) l)) := by
 refine enter Try.func96 rfl Try.ntmps96 rfl (fun a H => ?_)
 have S := St.start w
 refine seq_list fun K1 k1 => ?_
 refine list_box H rfl S rfl rfl ?_;clear H a S;intro b2 _ a hb2 hbw2 S H
 refine ls 2 H <| sr 2 rfl <| sE ?_;clear H a;intro a H
 refine k1 _ _ ?_;clear k1 K1
 refine sS H fun K2 k2=>sr 1 rfl <| sE ?_;clear H a;intro a H
 refine k2 _ ?_;clear k2 K2
 refine seq_list fun K3 k3 => ?_
 refine ls 1 H <| sd (does_build bt_68 rfl rfl) <| sE ?_;clear H a;intro a H
 refine list_alloc H rfl S ze_68 ?_;clear H a S;intro b7 _ a hb7 hbw7 S H
 refine list_store H S (i := 0) rfl rfl rfl rfl sz_68 rfl rfl ?_
 clear H a S;intro _ a S H
 refine k3 _ _ ?_;clear k3 K3
 refine wp_seq_k fun K4 k4 => ?_
 refine sS H fun K5 k5=>sr 1 rfl <| sE ?_;clear H a;intro a H
 refine k5 _ ?_;clear k5 K5
 refine wp_block ?_
 replace S := S.newNil 68 2 (fcell (fun q => fwd (⟨rates, pwn, ptn, pag⟩ : Part) l (q + 1)))
 refine loop_st (X := Nat × Option Addr × Nat) (R0 := _) [1, 2, 7] H rfl (fun ⟨k, A', c'⟩ => [(6, .slice A' k c'), (8, .int .i64 (k : Int))]) (fun ⟨k, A', c'⟩ => [boxM b7 68 [.int .i64 (fwd (⟨rates, pwn, ptn, pag⟩ : Part) l k).1, .int .i64 (fwd (⟨rates, pwn, ptn, pag⟩ : Part) l k).2], ownM 68 2 A' k c' (fcell (fun q => fwd (⟨rates, pwn, ptn, pag⟩ : Part) l (q + 1)))]) (fun g ⟨k, A', c'⟩ => k ≤ l.length ∧ g + k = l.length ∧ ∀ q, q < k → fits (⟨rates, pwn, ptn, pag⟩ : Part) l q) (l.length) (0, none, 0) ?_ (S.sel [1, 0, 2] rfl rfl) (H.keep [6, 8, 1, 2, 7] rfl) ?_
 · exact ⟨by omega, by omega, fun q hq => by omega⟩
 clear H S a
 intro g1 x1 a w1 hp S H K6 k6
 obtain ⟨k, A', c'⟩ := x1
 dsimp only at hp S H
 refine wp_seq_k fun K7 k7 => ?_
 refine sS H fun K8 k8=>sr 2 rfl <| sL sl_63 rfl <| sr 1 rfl <| sE ?_;clear H a;intro a H
 refine k8 _ ?_;clear k8 K8
 refine condL H rfl (fun hc1 => ?_) (fun hc1 => ?_)
 ·skip
  refine wp_skip ?_
  refine k7 _ _ ?_
  refine wp_seq_k fun K9 k9 => ?_
  refine wp_block ?_
  have hu := hok.use (k := k) (by omega); unfold useOk at hu; simp only [decide_eq_true_eq] at hu
  have hgb := grown_bd hok (k := k) (by omega)
  have hcls : 0 ≤ (l.getD k Use.zero).cls ∧ (l.getD k Use.zero).cls < rates.length := by
    have : ((⟨rates, pwn, ptn, pag⟩ : Part).rates.length : Int) = rates.length := rfl
    omega
  have hll := hok.len
  have hfb := fwd_bd hok k (by omega)
  replace H := H.keep [1, 2, 6, 7, 8] rfl
  refine seq_tail 6 (by kernel_rfl) (by kernel_rfl) fun K10 k10 => ?_
  replace S := S.drew
  refine sF H <| sd ((does_loadBox agg_62 sz_62 rfl S (i := 2) rfl rfl)) <| sd ((does_loadBox agg_68 sz_68 rfl S (i := 0) rfl rfl)) <| sr 2 rfl <| si sl_63 sz_72 rfl rfl (hl.adr (by omega)) (by omega) <| sd ((does_loadIn agg_72 sz_72 rfl S hl (by omega) (by omega))) <| sE ?_;clear H a;intro a H
  refine list_call H rfl rfl Try.func106 rfl rfl (ref_grown rates pwn ptn pag RA rcp (fwd (⟨rates, pwn, ptn, pag⟩ : Part) l k).1 (fwd (⟨rates, pwn, ptn, pag⟩ : Part) l k).2 (l.getD k Use.zero) _ (hr.now S) hrn hcls (by unfold i64ok; omega) (by unfold i64ok; omega) (by unfold i64ok; omega) (by unfold i64ok; omega)) ?_;clear H a
  rintro _ _ a ⟨rfl, S2⟩ H
  replace S := S.call S2;clear S2
  refine list_store H S (i := 0) rfl rfl rfl rfl sz_68 rfl rfl ?_
  clear H a S;intro _ a S H
  refine k10 _ _ ?_;clear k10 K10
  refine wp_seq_k fun K11 k11 => ?_
  replace H := H.keep [1, 2, 6, 7, 8] rfl
  refine sS H fun K12 k12=>sf fo_68_0 rfl <| sl S 0 one_3 rfl rfl rfl <| sf fo_68_1 rfl <| sl S 0 one_3 rfl rfl rfl <| sr 1 rfl <| sE ?_;clear H a;intro a H
  refine k12 _ ?_;clear k12 K12
  refine condL H rfl (fun hc2 => ?_) (fun hc2 => ?_)
  ·skip
   replace hc2 : (fwd (⟨rates, pwn, ptn, pag⟩ : Part) l (k + 1)).2 < (fwd (⟨rates, pwn, ptn, pag⟩ : Part) l (k + 1)).1 := hc2
   refine sS H fun K13 k13=>sr 3 rfl <| sE ?_;clear H a;intro a H
   refine k13 _ ?_;clear k13 K13
   refine wp_ret ?_
   refine ret2 (fn := Try.f96) rfl H rfl rfl ?_
   have e9 : atN (⟨rates, pwn, ptn, pag⟩ : Part) l = k := atN_eq ⟨by omega, hp.2.2, fun _ hf => absurd ((fits_iff hok (by omega) hp.2.2).1 hf) (Int.not_le.2 hc2)⟩
   exact .inr ⟨by omega, by rw [e9], (S.sel [] rfl rfl)⟩
  replace hc2 : (fwd (⟨rates, pwn, ptn, pag⟩ : Part) l (k + 1)).1 ≤ (fwd (⟨rates, pwn, ptn, pag⟩ : Part) l (k + 1)).2 := hc2
  refine wp_skip ?_
  refine k11 _ _ ?_
  replace H := H.keep [1, 2, 6, 7, 8] rfl
  refine one_list ?_
  refine ls 2 H <| sr 1 rfl <| sd ((does_loadBox agg_68 sz_68 rfl S (i := 0) rfl rfl)) <| sE ?_;clear H a;intro a H
  refine list_build' H rfl S sl_58 sz_68 ze_68 rfl rfl rfl rfl rfl rfl rfl rfl rfl ?_;clear H a S;intro A1 _ a hA1 S H
  refine list_append H rfl S sl_58 sz_68 ze_68 by_68 rfl rfl (i := 2) rfl rfl rfl (ownM.inS S (i := 0) rfl) (one_vs (two rfl rfl)) (by omega) (by omega) ?_;clear H a S;intro A2 c2 _ a S H
  replace S := S.recell (i := 2) rfl (cell' := fcell (fun q => fwd (⟨rates, pwn, ptn, pag⟩ : Part) l (q + 1))) (capp_one (two rfl rfl))
  refine ls 1 H <| sr 1 rfl <| sE ?_;clear H a;intro a H
  refine k9 _ _ ?_
  refine sO H <| sr 1 rfl <| sd (does_add rfl rfl (by unfold i64ok; omega)) <| sr 1 rfl <| sE ?_;clear H a;intro a H
  exact k6 (g1 - 1) (k + 1, _, _) a _ (by omega) (⟨by omega, by omega, fun q hq => by
    by_cases h : q = k
    · subst h; exact (fits_iff hok (by omega) hp.2.2).2 hc2
    · exact hp.2.2 q (by omega)⟩) (S.sel [1, 2, 3] rfl rfl) (H.keep [6, 8, 1, 2, 7] rfl)
 refine wp_exit ?_
 refine k4 _ _ ?_
 replace H := H.keep [6] rfl
 refine sS H fun K16 k16=>sr 3 rfl <| sE ?_;clear H a;intro a H
 refine k16 _ ?_;clear k16 K16
 refine wp_ret ?_
 refine ret2 (fn := Try.f96) rfl H rfl rfl ?_
 have hk9 : k = l.length := by omega
 subst hk9
 exact .inl ⟨atN_eq ⟨Nat.le_refl _, hp.2.2, fun h => absurd h (Nat.lt_irrefl _)⟩, A', c', rfl, (S.sel [1] rfl rfl)⟩

end Go.Proofs.Ytopmadlgolnmfaa
