/- RwA. Printed by gen.py. -/
import Derived.Test.YtopmadlgolnmfaaWyJ
namespace Go.Proofs.Ytopmadlgolnmfaa
open Go.RowKit
set_option linter.unusedVariables false
set_option linter.unusedSimpArgs false
set_option maxRecDepth 100000
set_option maxHeartbeats 4000000


/-- The machines of the first passages. -/
def MList (ps : List Psg) (k : Nat) (ml : List Int) : Prop := ml.length ≤ k ∧ ∀ m, 0 ≤ m → (hasI ml m = true ↔ ¬ cntM ps m k = 0)
theorem MList.nil {ps : List Psg} : MList ps 0 [] := ⟨Nat.le_refl 0, fun m _ => by
  constructor
  · intro h; cases h
  · intro h; exact absurd rfl h⟩
theorem cntM_succ {ps : List Psg} {m : Int} {k : Nat} : cntM ps m (k + 1) = cntM ps m k + (if machAt ps k = m then 1 else 0) := rfl
theorem hasI_snoc {l : List Int} {x m : Int} : hasI (l ++ [x]) m = (hasI l m || decide (m = x)) := by unfold hasI; rw [List.any_append]; simp
theorem MList.add {ps : List Psg} {k : Nat} {ml : List Int} (h : MList ps k ml) : MList ps (k + 1) (ml ++ [machAt ps k]) := ⟨by rw [List.length_append]; have := h.1; simp; omega, fun m hm => by
  have h1 := h.2 m hm
  have h2 := cntM_nn (ps := ps) (m := m) (k := k)
  rw [hasI_snoc, cntM_succ, Bool.or_eq_true, decide_eq_true_eq, h1]
  by_cases e : machAt ps k = m
  · rw [if_pos e]; exact ⟨fun _ => by omega, fun _ => .inr e.symm⟩
  · rw [if_neg e, Int.add_zero]; exact ⟨fun g => g.resolve_right (fun g => e g.symm), .inl⟩⟩
theorem MList.skip {ps : List Psg} {k : Nat} {ml : List Int} (h : MList ps k ml) (hk : machAt ps k < 0) : MList ps (k + 1) ml := ⟨by have := h.1; omega, fun m hm => by
  rw [cntM_succ, if_neg (by omega), Int.add_zero]
  exact h.2 m hm⟩
theorem MList.fresh {ps : List Psg} {k : Nat} {ml : List Int} (h : MList ps k ml) (h0 : 0 ≤ (ps.getD k Psg.zero).mach) (hh : hasI ml (ps.getD k Psg.zero).mach = false) : cntM ps (machAt ps k) k = 0 := by
  have h9 := h.2 _ h0
  rw [hh] at h9
  have h8 : machAt ps k = (ps.getD k Psg.zero).mach := rfl
  rw [h8]
  simp only [Bool.false_eq_true, false_iff] at h9
  omega
theorem pas_mach {pl : Int} {ps : List Psg} {k : Nat} (h : psgOk pl (ps.getD k Psg.zero) = true) (hz : cntM ps (machAt ps k) k = 0) : pasOk pl ps k = true := by unfold pasOk; rw [h, decide_eq_true (.inr hz)]; rfl
theorem pas_none {pl : Int} {ps : List Psg} {k : Nat} (h : psgOk pl (ps.getD k Psg.zero) = true) (hz : (ps.getD k Psg.zero).mach < 0) : pasOk pl ps k = true := by unfold pasOk; rw [h, decide_eq_true (.inl hz)]; rfl
theorem pas_bad {pl : Int} {ps : List Psg} {k : Nat} {ml : List Int} (hM : MList ps k ml) (hc : ((ps.getD k Psg.zero).mach < 0 ∨ 11 < (ps.getD k Psg.zero).mach) ∨ hasI ml (ps.getD k Psg.zero).mach = true) (hk : (ps.getD k Psg.zero).kind = 3 ∨ (ps.getD k Psg.zero).kind = 4) : pasOk pl ps k = false := by
  unfold pasOk
  rw [Bool.and_eq_false_iff]
  by_cases h0 : 0 ≤ (ps.getD k Psg.zero).mach ∧ (ps.getD k Psg.zero).mach ≤ 11
  · refine .inr (decide_eq_false ?_)
    have h9 := hM.2 _ h0.1
    have h8 : machAt ps k = (ps.getD k Psg.zero).mach := rfl
    rw [h8]
    rcases hc with h7 | h7
    · omega
    · rw [h7] at h9
      simp only [true_iff] at h9
      omega
  · exact .inl (psgOk_not (by omega))
theorem exOk_of {pl : Int} {xs : List Int} {k : Nat} (h : (0 ≤ xs.getD k 0 ∧ xs.getD k 0 ≤ pl - 1) ∧ (k = 0 ∨ xs.getD (k - 1) 0 < xs.getD k 0)) : exOk pl xs k = true := by unfold exOk; rw [decide_eq_true_eq]; omega
theorem exOk_no {pl : Int} {xs : List Int} {k : Nat} (h : ¬ ((0 ≤ xs.getD k 0 ∧ xs.getD k 0 ≤ pl - 1) ∧ (k = 0 ∨ xs.getD (k - 1) 0 < xs.getD k 0))) : exOk pl xs k = false := by unfold exOk; rw [decide_eq_false_iff_not]; omega
theorem w8icl_snoc {l : List Int} {x : Int} {v : Value} (hv : v = .int .i64 x) : ∀ k j, k < l.length + 1 → j < 1 → capp l.length (icl l) (fun k' j => ([[v]].getD k' []).getD j undef) k j = icl (l ++ [x]) k j := by
  intro k j hk hj
  have : j = 0 := by omega
  subst this
  subst hv
  unfold capp icl
  by_cases h : k < l.length
  · rw [if_pos h, List.getD_eq_getElem?_getD, List.getD_eq_getElem?_getD, List.getElem?_append_left h]
  · have e : k = l.length := by omega
    subst e
    rw [if_neg h, Nat.sub_self, List.getD_eq_getElem?_getD, List.getElem?_append_right (Nat.le_refl _), Nat.sub_self]
    rfl


theorem w8ref_from (n lo hi : Int) (w : World) :
    Calls Try.prog 71 [.int .i64 n, .int .i64 lo, .int .i64 hi].toArray w (Ret (fun v w' => v = .bool (decide (lo ≤ n) && decide (n ≤ hi)) ∧ w' = w)) := by
 refine enter Try.func71 rfl Try.ntmps71 rfl (fun a H => ?_)
 have S := St.start w
 refine sS H fun K1 k1=>sr 1 rfl <| sE ?_;clear H a;intro a H
 refine k1 _ ?_;clear k1 K1
 replace H := H.keep [0, 1, 2] rfl
 refine sS H fun K2 k2=>sr 4 rfl <| sg 3 3 10 13 true rfl rfl (fun hg4 => sy hg4 <| sr 1 rfl <| sy hg4 <| sr 1 rfl <| sy hg4 <| sr 1 rfl <| sz 3 rfl rfl rfl) <| sa rfl rfl rfl <| sr 1 rfl <| sE ?_;clear H a;intro a H
 refine k2 _ ?_;clear k2 K2
 refine wp_ret ?_
 refine ret1 (fn := Try.f71) rfl H rfl ?_
 exact ⟨rfl, rfl⟩

theorem ref_set (n : Int) (w : World) :
    Calls Try.prog 83 [.int .i64 n].toArray w (Ret (fun v w' => v = .bool (decide (0 ≤ n) && decide (n ≤ 4095)) ∧ w' = w)) := by
 refine enter Try.func83 rfl Try.ntmps83 rfl (fun a H => ?_)
 have S := St.start w
 refine sS H fun K1 k1=>sr 1 rfl <| sE ?_;clear H a;intro a H
 refine k1 _ ?_;clear k1 K1
 refine sS H fun K2 k2=>sr 1 rfl <| sc rfl Try.func71 rfl rfl (w8ref_from _ _ _ _) <| sr 1 rfl <| sE ?_;clear H a;intro a H
 refine k2 _ ?_;clear k2 K2
 refine wp_ret ?_
 refine ret1 (fn := Try.f83) rfl H rfl ?_
 exact ⟨rfl, rfl⟩

theorem ref_has (l : List Int) (A : Option Addr) (cp : Nat) (x : Int) (w : World) (hl : InS w noF 1 A l.length (icl l)) (hn : l.length ≤ 9223372036854775807) :
    Calls Try.prog 72 [.slice A l.length cp, .int .i64 x].toArray w (Ret (fun u w' => u = .bool (hasI l x) ∧ St w noF [] w')) := by
 refine enter Try.func72 rfl Try.ntmps72 rfl (fun a H => ?_)
 have S := St.start w
 refine sS H fun K1 k1=>sr 1 rfl <| sE ?_;clear H a;intro a H
 refine k1 _ ?_;clear k1 K1
 refine wp_seq_k fun K2 k2 => ?_
 refine sS H fun K3 k3=>sr 1 rfl <| sE ?_;clear H a;intro a H
 refine k3 _ ?_;clear k3 K3
 refine wp_block ?_
 refine loop_st (X := Nat) (R0 := _) [0, 1] H rfl (fun k => [(5, .int .i64 (k : Int))]) (fun k => []) (fun g k => k ≤ l.length ∧ g + k = l.length ∧ (l.take k).any (fun y => decide (x = y)) = false) (l.length) 0 ?_ (S.sel [] rfl rfl) (H.keep [5, 0, 1] rfl) ?_
 · exact ⟨by omega, by omega, rfl⟩
 clear H S a
 intro g1 x1 a w1 hp S H K4 k4
 obtain ⟨k, rfl⟩ : ∃ y, y = x1 := ⟨_, rfl⟩
 refine wp_seq_k fun K5 k5 => ?_
 refine sS H fun K6 k6=>sr 2 rfl <| sL sl_23 rfl <| sr 1 rfl <| sE ?_;clear H a;intro a H
 refine k6 _ ?_;clear k6 K6
 refine condL H rfl (fun hc1 => ?_) (fun hc1 => ?_)
 ·skip
  refine wp_skip ?_
  refine k5 _ _ ?_
  refine wp_seq_k fun K7 k7 => ?_
  refine wp_block ?_
  replace H := H.keep [0, 1, 5] rfl
  refine sS H fun K8 k8=>sr 2 rfl <| si sl_23 sz_3 rfl rfl (hl.adr (by omega)) (by omega) <| slm one_3 rfl (hl.rd S (by omega) (by omega)) <| sr 2 rfl <| sE ?_;clear H a;intro a H
  refine k8 _ ?_;clear k8 K8
  refine condE H rfl (fun hc2 => ?_) (fun hc2 => ?_)
  ·skip
   refine sS H fun K9 k9=>sr 1 rfl <| sE ?_;clear H a;intro a H
   refine k9 _ ?_;clear k9 K9
   refine wp_ret ?_
   refine ret1 (fn := Try.f72) rfl H rfl ?_
   exact ⟨by rw [has_at (k := k) (by omega) (by omega)], (S.sel [] rfl rfl)⟩
  refine wp_skip ?_
  refine k7 _ _ ?_
  replace H := H.keep [0, 1, 5] rfl
  refine sO H <| sr 1 rfl <| sd (does_add rfl rfl (by unfold i64ok; omega)) <| sr 1 rfl <| sE ?_;clear H a;intro a H
  exact k4 (g1 - 1) (k + 1) a _ (by omega) (⟨by omega, by omega, has_take (by omega) hp.2.2 (by omega)⟩) (S.sel [] rfl rfl) (H.keep [5, 0, 1] rfl)
 refine wp_exit ?_
 refine k2 _ _ ?_
 refine sS H fun K11 k11=>sr 1 rfl <| sE ?_;clear H a;intro a H
 refine k11 _ ?_;clear k11 K11
 refine wp_ret ?_
 refine ret1 (fn := Try.f72) rfl H rfl ?_
 exact ⟨by unfold hasI; rw [← List.take_of_length_le (l := l) (i := k) (by omega), hp.2.2], (S.sel [] rfl rfl)⟩

theorem w8ref_Check (pl : Int) (ps : List Psg) (PA : Option Addr) (pc : Nat) (xs : List Int) (XA : Option Addr) (xc : Nat) (w : World) (hps : InS w noF 7 PA ps.length (pcell ps)) (hpn : ps.length ≤ 9223372036854775807) (hxs : InS w noF 1 XA xs.length (icl xs)) (hxn : xs.length ≤ 9223372036854775807) :
    Calls Try.prog 47 [.agg [.int .i64 pl, .slice PA ps.length pc, .slice XA xs.length xc].toArray].toArray w (Ret (fun v w' => v = .int .i64 (stE pl ps xs) ∧ St w noF [] w')) := by
 refine enter Try.func47 rfl Try.ntmps47 rfl (fun a H => ?_)
 have S := St.start w
 refine seq_list fun K1 k1 => ?_
 refine list_box H rfl S rfl rfl ?_;clear H a S;intro b1 _ a hb1 hbw1 S H
 refine ls 1 H <| sr 1 rfl <| sE ?_;clear H a;intro a H
 refine k1 _ _ ?_;clear k1 K1
 refine wp_seq_k fun K2 k2 => ?_
 replace H := H.keep [1] rfl
 refine sS H fun K3 k3=>sf fo_25_0 rfl <| sl S 0 one_3 rfl rfl rfl <| sc rfl Try.func71 rfl rfl (w8ref_from _ _ _ _) <| sr 2 rfl <| sg 4 4 11 15 false rfl rfl (fun hg5 => by
     have hq5 := hg5;try simp only [o1,o2,o3,o4,o5,o6,o7,o8,o9,oa] at hq5
     exact sy hg5 <| sf fo_25_1 rfl <| sy hg5 <| sl S 0 one_22 rfl rfl rfl <| sy hg5 <| sL sl_22 rfl <| sy hg5 <| sr 1 rfl <| sz 4 rfl rfl rfl) <| so rfl rfl rfl <| sE ?_;clear H a;intro a H
 refine k3 _ ?_;clear k3 K3
 refine cond_ H rfl (fun hc1 => ?_) (fun hc1 => ?_)
 ·skip
  try simp only [o1,o2,o3,o4,o5,o6,o7,o8,o9,oa] at hc1
  replace H := H.keep [] rfl
  refine sS H fun K4 k4=>sr 1 rfl <| sE ?_;clear H a;intro a H
  refine k4 _ ?_;clear k4 K4
  refine wp_ret ?_
  refine ret1 (fn := Try.f47) rfl H rfl ?_
  exact ⟨congrArg _ (st_size (by omega)).symm, (S.sel [] rfl rfl)⟩
 try simp only [o1,o2,o3,o4,o5,o6,o7,o8,o9,oa] at hc1
 refine wp_skip ?_
 refine k2 _ _ ?_
 refine sS H fun K5 k5=>sr 1 rfl <| sE ?_;clear H a;intro a H
 refine k5 _ ?_;clear k5 K5
 refine wp_seq_k fun K6 k6 => ?_
 refine sS H fun K7 k7=>sr 1 rfl <| sE ?_;clear H a;intro a H
 refine k7 _ ?_;clear k7 K7
 refine wp_block ?_
 replace S := S.newNil 3 1 (icl [])
 refine loop_st (X := Nat × List Int × Option Addr × Nat) (R0 := _) [1] H rfl (fun ⟨k, ml, A9, c9⟩ => [(3, .slice A9 ml.length c9), (4, .int .i64 (k : Int))]) (fun ⟨k, ml, A9, c9⟩ => [ownM 3 1 A9 ml.length c9 (icl ml)]) (fun g ⟨k, ml, A9, c9⟩ => k ≤ ps.length ∧ g + k = ps.length ∧ allN (pasOk pl ps) k = true ∧ MList ps k ml) (ps.length) (0, [], none, 0) ?_ (S.sel [0, 1] rfl rfl) (H.keep [3, 4, 1] rfl) ?_
 · exact ⟨by omega, by omega, rfl, MList.nil⟩
 clear H S a
 intro g1 x1 a w1 hp S H K8 k8
 obtain ⟨k, ml, A9, c9⟩ := x1
 dsimp only at hp S H
 obtain ⟨hkl, hgk, hA, hM⟩ := hp
 refine wp_seq_k fun K9 k9 => ?_
 refine sS H fun K10 k10=>sr 1 rfl <| sf fo_25_1 rfl <| sl S 1 one_22 rfl rfl rfl <| sL sl_22 rfl <| sr 1 rfl <| sE ?_;clear H a;intro a H
 refine k10 _ ?_;clear k10 K10
 refine condL H rfl (fun hc2 => ?_) (fun hc2 => ?_)
 ·skip
  refine wp_skip ?_
  refine k9 _ _ ?_
  refine wp_seq_k fun K11 k11 => ?_
  refine wp_block ?_
  replace H := H.keep [1, 3, 4] rfl
  refine seq_list fun K12 k12 => ?_
  refine ls 5 H <| sf fo_25_1 rfl <| sl S 1 one_22 rfl rfl rfl <| sr 1 rfl <| si sl_22 sz_128 rfl rfl (hps.adr (by omega)) (by omega) <| sd ((does_loadIn agg_128 sz_128 rfl S hps (by omega) (by omega))) <| sE ?_;clear H a;intro a H
  refine list_alloc H rfl S ze_128 ?_;clear H a S;intro b5 _ a hb5 hbw5 S H
  refine list_store H S (i := 0) rfl rfl rfl rfl sz_128 rfl rfl ?_
  clear H a S;intro _ a S H
  refine k12 _ _ ?_;clear k12 K12
  refine wp_seq_k fun K13 k13 => ?_
  replace H := H.keep [1, 3, 4, 5] rfl
  refine sS H fun K14 k14=>sf fo_128_0 rfl <| sl S 0 one_3 rfl rfl rfl <| sf fo_25_0 rfl <| sl S 2 one_3 rfl rfl rfl <| sd (does_sub rfl rfl (by unfold i64ok; omega)) <| sc rfl Try.func71 rfl rfl (w8ref_from _ _ _ _) <| sr 2 rfl <| sg 7 7 36 43 false rfl rfl (fun hg8 => by
      have hq8 := hg8;try simp only [o1,o2,o3,o4,o5,o6,o7,o8,o9,oa] at hq8
      exact sy hg8 <| sf fo_128_1 rfl <| sy hg8 <| sl S 0 one_3 rfl rfl rfl <| sy hg8 <| sf fo_25_0 rfl <| sy hg8 <| sl S 2 one_3 rfl rfl rfl <| sy hg8 <| sd (does_sub rfl rfl (by unfold i64ok; omega)) <| sy hg8 <| sc rfl Try.func71 rfl rfl (w8ref_from _ _ _ _) <| sy hg8 <| sr 1 rfl <| sz 7 rfl rfl rfl) <| so rfl rfl rfl <| sr 1 rfl <| sg 5 16 45 50 false rfl rfl (fun hg17 => by
      have hq17 := hg17;try simp only [o1,o2,o3,o4,o5,o6,o7,o8,o9,oa] at hq17
      exact sy hg17 <| sf fo_128_0 rfl <| sy hg17 <| sl S 0 one_3 rfl rfl rfl <| sy hg17 <| sf fo_128_1 rfl <| sy hg17 <| sl S 0 one_3 rfl rfl rfl <| sy hg17 <| sr 1 rfl <| sz 5 rfl rfl rfl) <| so rfl rfl rfl <| sr 1 rfl <| sg 4 23 52 56 false rfl rfl (fun hg24 => by
      have hq24 := hg24;try simp only [o1,o2,o3,o4,o5,o6,o7,o8,o9,oa] at hq24
      exact sy hg24 <| sf fo_128_3 rfl <| sy hg24 <| sl S 0 one_3 rfl rfl rfl <| sy hg24 <| sc rfl Try.func71 rfl rfl (w8ref_from _ _ _ _) <| sy hg24 <| sr 1 rfl <| sz 4 rfl rfl rfl) <| so rfl rfl rfl <| sr 1 rfl <| sg 4 29 58 62 false rfl rfl (fun hg30 => by
      have hq30 := hg30;try simp only [o1,o2,o3,o4,o5,o6,o7,o8,o9,oa] at hq30
      exact sy hg30 <| sf fo_128_4 rfl <| sy hg30 <| sl S 0 one_3 rfl rfl rfl <| sy hg30 <| sc rfl Try.func71 rfl rfl (w8ref_from _ _ _ _) <| sy hg30 <| sr 1 rfl <| sz 4 rfl rfl rfl) <| so rfl rfl rfl <| sr 1 rfl <| sg 4 35 64 68 false rfl rfl (fun hg36 => by
      have hq36 := hg36;try simp only [o1,o2,o3,o4,o5,o6,o7,o8,o9,oa] at hq36
      exact sy hg36 <| sf fo_128_2 rfl <| sy hg36 <| sl S 0 one_3 rfl rfl rfl <| sy hg36 <| sc rfl Try.func71 rfl rfl (w8ref_from _ _ _ _) <| sy hg36 <| sr 1 rfl <| sz 4 rfl rfl rfl) <| so rfl rfl rfl <| sE ?_;clear H a;intro a H
  refine k14 _ ?_;clear k14 K14
  refine cond_ H rfl (fun hc3 => ?_) (fun hc3 => ?_)
  ·skip
   try simp only [o1,o2,o3,o4,o5,o6,o7,o8,o9,oa] at hc3
   replace H := H.keep [] rfl
   refine sS H fun K15 k15=>sr 1 rfl <| sE ?_;clear H a;intro a H
   refine k15 _ ?_;clear k15 K15
   refine wp_ret ?_
   refine ret1 (fn := Try.f47) rfl H rfl ?_
   exact ⟨congrArg _ (st_pas (k := k) (by omega) (by unfold pasOk; rw [Bool.and_eq_false_iff]; exact .inl (psgOk_not (by omega)))).symm, (S.sel [] rfl rfl)⟩
  try simp only [o1,o2,o3,o4,o5,o6,o7,o8,o9,oa] at hc3
  refine wp_skip ?_
  refine k13 _ _ ?_
  refine wp_seq_k fun K16 k16 => ?_
  refine sS H fun K17 k17=>sf fo_128_2 rfl <| sl S 0 one_3 rfl rfl rfl <| sr 2 rfl <| sg 3 3 73 76 false rfl rfl (fun hg4 => by
      have hq4 := hg4;try simp only [o1,o2,o3,o4,o5,o6,o7,o8,o9,oa] at hq4
      exact sy hg4 <| sf fo_128_2 rfl <| sy hg4 <| sl S 0 one_3 rfl rfl rfl <| sy hg4 <| sr 1 rfl <| sz 3 rfl rfl rfl) <| so rfl rfl rfl <| sE ?_;clear H a;intro a H
  refine k17 _ ?_;clear k17 K17
  refine cond_ H rfl (fun hc4 => ?_) (fun hc4 => ?_)
  ·skip
   try simp only [o1,o2,o3,o4,o5,o6,o7,o8,o9,oa] at hc4
   refine wp_seq_k fun K18 k18 => ?_
   replace H := H.keep [1, 3, 4, 5] rfl
   refine seq_list fun K19 k19 => ?_
   refine ls 2 H <| sf fo_128_5 rfl <| sl S 0 one_3 rfl rfl rfl <| sE ?_;clear H a;intro a H
   refine list_call H rfl rfl Try.func71 rfl rfl (w8ref_from _ _ _ _) ?_;clear H a
   rintro _ _ a ⟨rfl, rfl⟩ H
   refine ls 2 H <| sr 2 rfl <| sE ?_;clear H a;intro a H
   apply list_guard (i := 4) (g := 82) (t := 86) (b := false) 4 H S rfl rfl (by kernel_rfl) (by kernel_rfl) rfl rfl
   case h1 =>
    intro hg5
    have hq5 := hg5; try simp only [o1,o2,o3,o4,o5,o6,o7,o8,o9,oa] at hq5
    refine ls 3 H <| sy hg5 <| sr 1 rfl <| sy hg5 <| sf fo_128_5 rfl <| sy hg5 <| sl S 0 one_3 rfl rfl rfl <| sE ?_;intro a H
    refine list_yes' H rfl rfl (by assumption) ?_
    refine list_call H rfl rfl Try.func72 rfl rfl (ref_has ml A9 c9 _ _ (ownM.inS S (i := 1) rfl) (by have := hM.1; omega)) ?_
    rintro _ _ a ⟨rfl, S2⟩ H
    replace S := S.call S2;clear S2
    exact wpList_nil ⟨H.strip 4 rfl rfl, (S.sel [0, 1, 2] rfl rfl)⟩
   clear H a S;intro a _ H S
   refine ls 1 H <| so rfl rfl rfl <| sE ?_;clear H a;intro a H
   refine k19 _ _ ?_;clear k19 K19
   refine cond_ H rfl (fun hc5 => ?_) (fun hc5 => ?_)
   ·skip
    try simp only [o1,o2,o3,o4,o5,o6,o7,o8,o9,oa] at hc5
    replace H := H.keep [] rfl
    refine sS H fun K20 k20=>sr 1 rfl <| sE ?_;clear H a;intro a H
    refine k20 _ ?_;clear k20 K20
    refine wp_ret ?_
    refine ret1 (fn := Try.f47) rfl H rfl ?_
    exact ⟨congrArg _ (st_pas (k := k) (by omega) (pas_bad hM hc5 hc4)).symm, (S.sel [] rfl rfl)⟩
   try simp only [o1,o2,o3,o4,o5,o6,o7,o8,o9,oa] at hc5
   have hz := hM.fresh hc5.1.1 hc5.2
   refine wp_skip ?_
   refine k18 _ _ ?_
   refine one_list ?_
   refine ls 3 H <| sr 1 rfl <| sf fo_128_5 rfl <| sl S 0 one_3 rfl rfl rfl <| sE ?_;clear H a;intro a H
   refine list_build' H rfl S sl_23 sz_3 ze_3 rfl rfl rfl rfl rfl rfl rfl rfl rfl ?_;clear H a S;intro A1 _ a hA1 S H
   refine list_append H rfl S sl_23 sz_3 ze_3 by_3 rfl rfl (i := 2) rfl rfl rfl (ownM.inS S (i := 0) rfl) (w8one_vs (w8one rfl)) (by have := hM.1; omega) (by have := hM.1; omega) ?_;clear H a S;intro A2 c2 _ a S H
   replace S := S.recell (i := 2) rfl (cell' := icl (ml ++ [machAt ps k])) (fun q j hq hj => w8icl_snoc rfl q j hq hj)
   rw [show ml.length + 1 = (ml ++ [machAt ps k]).length by simp] at H S
   refine ls 1 H <| sr 1 rfl <| sE ?_;clear H a;intro a H
   refine k16 _ _ ?_
   replace H := H.keep [1, 3, 4, 5] rfl
   refine sS H fun K22 k22=>sf fo_128_2 rfl <| sl S 1 one_3 rfl rfl rfl <| sr 1 rfl <| sE ?_;clear H a;intro a H
   refine k22 _ ?_;clear k22 K22
   refine condE H rfl (fun hc6 => ?_) (fun hc6 => ?_)
   ·skip
    refine sS H fun K23 k23=>sf fo_128_6 rfl <| sl S 1 one_3 rfl rfl rfl <| sc rfl Try.func71 rfl rfl (w8ref_from _ _ _ _) <| sr 1 rfl <| sE ?_;clear H a;intro a H
    refine k23 _ ?_;clear k23 K23
    refine cond_ H rfl (fun hc7 => ?_) (fun hc7 => ?_)
    ·skip
     try simp only [o1,o2,o3,o4,o5,o6,o7,o8,o9,oa] at hc7
     refine sS H fun K24 k24=>sr 1 rfl <| sE ?_;clear H a;intro a H
     refine k24 _ ?_;clear k24 K24
     refine wp_ret ?_
     refine ret1 (fn := Try.f47) rfl H rfl ?_
     exact ⟨congrArg _ (st_pas (k := k) (by omega) (by unfold pasOk; rw [Bool.and_eq_false_iff]; exact .inl (psgOk_not (by omega)))).symm, (S.sel [] rfl rfl)⟩
    try simp only [o1,o2,o3,o4,o5,o6,o7,o8,o9,oa] at hc7
    refine wp_skip ?_
    refine k11 _ _ ?_
    replace H := H.keep [1, 3, 4] rfl
    refine sO H <| sr 1 rfl <| sd (does_add rfl rfl (by unfold i64ok; omega)) <| sr 1 rfl <| sE ?_;clear H a;intro a H
    exact k8 (g1 - 1) (k + 1, _, _, _) a _ (by omega) (by first | exact ⟨by omega, by omega, allN_step hA (pas_mach (psgOk_iff.2 (by omega)) hz), hM.add⟩ | exact ⟨by omega, by omega, allN_step hA (pas_none (psgOk_iff.2 (by omega)) (by omega)), hM.skip (by unfold machAt; omega)⟩) (S.sel [2, 3] rfl rfl) (H.keep [3, 4, 1] rfl)
   refine sS H fun K26 k26=>sf fo_128_6 rfl <| sl S 1 one_3 rfl rfl rfl <| sr 1 rfl <| sE ?_;clear H a;intro a H
   refine k26 _ ?_;clear k26 K26
   refine condN H rfl (fun hc8 => ?_) (fun hc8 => ?_)
   ·skip
    refine sS H fun K27 k27=>sr 1 rfl <| sE ?_;clear H a;intro a H
    refine k27 _ ?_;clear k27 K27
    refine wp_ret ?_
    refine ret1 (fn := Try.f47) rfl H rfl ?_
    exact ⟨congrArg _ (st_pas (k := k) (by omega) (by unfold pasOk; rw [Bool.and_eq_false_iff]; exact .inl (psgOk_not (by omega)))).symm, (S.sel [] rfl rfl)⟩
   refine wp_skip ?_
   refine k11 _ _ ?_
   replace H := H.keep [1, 3, 4] rfl
   refine sO H <| sr 1 rfl <| sd (does_add rfl rfl (by unfold i64ok; omega)) <| sr 1 rfl <| sE ?_;clear H a;intro a H
   exact k8 (g1 - 1) (k + 1, _, _, _) a _ (by omega) (by first | exact ⟨by omega, by omega, allN_step hA (pas_mach (psgOk_iff.2 (by omega)) hz), hM.add⟩ | exact ⟨by omega, by omega, allN_step hA (pas_none (psgOk_iff.2 (by omega)) (by omega)), hM.skip (by unfold machAt; omega)⟩) (S.sel [2, 3] rfl rfl) (H.keep [3, 4, 1] rfl)
  try simp only [o1,o2,o3,o4,o5,o6,o7,o8,o9,oa] at hc4
  refine sS H fun K29 k29=>sf fo_128_5 rfl <| sl S 0 one_3 rfl rfl rfl <| sr 1 rfl <| sE ?_;clear H a;intro a H
  refine k29 _ ?_;clear k29 K29
  refine condN H rfl (fun hc9 => ?_) (fun hc9 => ?_)
  ·skip
   refine sS H fun K30 k30=>sr 1 rfl <| sE ?_;clear H a;intro a H
   refine k30 _ ?_;clear k30 K30
   refine wp_ret ?_
   refine ret1 (fn := Try.f47) rfl H rfl ?_
   exact ⟨congrArg _ (st_pas (k := k) (by omega) (by unfold pasOk; rw [Bool.and_eq_false_iff]; exact .inl (psgOk_not (by omega)))).symm, (S.sel [] rfl rfl)⟩
  refine wp_skip ?_
  refine k16 _ _ ?_
  replace H := H.keep [1, 3, 4, 5] rfl
  refine sS H fun K31 k31=>sf fo_128_2 rfl <| sl S 0 one_3 rfl rfl rfl <| sr 1 rfl <| sE ?_;clear H a;intro a H
  refine k31 _ ?_;clear k31 K31
  refine condE H rfl (fun hc10 => ?_) (fun hc10 => ?_)
  ·skip
   refine sS H fun K32 k32=>sf fo_128_6 rfl <| sl S 0 one_3 rfl rfl rfl <| sc rfl Try.func71 rfl rfl (w8ref_from _ _ _ _) <| sr 1 rfl <| sE ?_;clear H a;intro a H
   refine k32 _ ?_;clear k32 K32
   refine cond_ H rfl (fun hc11 => ?_) (fun hc11 => ?_)
   ·skip
    try simp only [o1,o2,o3,o4,o5,o6,o7,o8,o9,oa] at hc11
    refine sS H fun K33 k33=>sr 1 rfl <| sE ?_;clear H a;intro a H
    refine k33 _ ?_;clear k33 K33
    refine wp_ret ?_
    refine ret1 (fn := Try.f47) rfl H rfl ?_
    exact ⟨congrArg _ (st_pas (k := k) (by omega) (by unfold pasOk; rw [Bool.and_eq_false_iff]; exact .inl (psgOk_not (by omega)))).symm, (S.sel [] rfl rfl)⟩
   try simp only [o1,o2,o3,o4,o5,o6,o7,o8,o9,oa] at hc11
   refine wp_skip ?_
   refine k11 _ _ ?_
   replace H := H.keep [1, 3, 4] rfl
   refine sO H <| sr 1 rfl <| sd (does_add rfl rfl (by unfold i64ok; omega)) <| sr 1 rfl <| sE ?_;clear H a;intro a H
   exact k8 (g1 - 1) (k + 1, _, _, _) a _ (by omega) (by first | exact ⟨by omega, by omega, allN_step hA (pas_mach (psgOk_iff.2 (by omega)) hz), hM.add⟩ | exact ⟨by omega, by omega, allN_step hA (pas_none (psgOk_iff.2 (by omega)) (by omega)), hM.skip (by unfold machAt; omega)⟩) (S.sel [1, 2] rfl rfl) (H.keep [3, 4, 1] rfl)
  refine sS H fun K35 k35=>sf fo_128_6 rfl <| sl S 0 one_3 rfl rfl rfl <| sr 1 rfl <| sE ?_;clear H a;intro a H
  refine k35 _ ?_;clear k35 K35
  refine condN H rfl (fun hc12 => ?_) (fun hc12 => ?_)
  ·skip
   refine sS H fun K36 k36=>sr 1 rfl <| sE ?_;clear H a;intro a H
   refine k36 _ ?_;clear k36 K36
   refine wp_ret ?_
   refine ret1 (fn := Try.f47) rfl H rfl ?_
   exact ⟨congrArg _ (st_pas (k := k) (by omega) (by unfold pasOk; rw [Bool.and_eq_false_iff]; exact .inl (psgOk_not (by omega)))).symm, (S.sel [] rfl rfl)⟩
  refine wp_skip ?_
  refine k11 _ _ ?_
  replace H := H.keep [1, 3, 4] rfl
  refine sO H <| sr 1 rfl <| sd (does_add rfl rfl (by unfold i64ok; omega)) <| sr 1 rfl <| sE ?_;clear H a;intro a H
  exact k8 (g1 - 1) (k + 1, _, _, _) a _ (by omega) (by first | exact ⟨by omega, by omega, allN_step hA (pas_mach (psgOk_iff.2 (by omega)) hz), hM.add⟩ | exact ⟨by omega, by omega, allN_step hA (pas_none (psgOk_iff.2 (by omega)) (by omega)), hM.skip (by unfold machAt; omega)⟩) (S.sel [1, 2] rfl rfl) (H.keep [3, 4, 1] rfl)
 refine wp_exit ?_
 refine k6 _ _ ?_
 refine wp_seq_k fun K38 k38 => ?_
 refine sS H fun K39 k39=>sr 1 rfl <| sE ?_;clear H a;intro a H
 refine k39 _ ?_;clear k39 K39
 refine wp_block ?_
 refine loop_st (X := Nat) (R0 := _) [1] H rfl (fun k2 => [(6, .int .i64 (k2 : Int))]) (fun k2 => []) (fun g k2 => k2 ≤ xs.length ∧ g + k2 = xs.length ∧ allN (exOk pl xs) k2 = true) (xs.length) 0 ?_ (S.sel [0, 1] rfl rfl) (H.keep [6, 1] rfl) ?_
 · exact ⟨by omega, by omega, rfl⟩
 clear H S a
 intro g2 x2 a w2 hp S H K40 k40
 obtain ⟨k2, rfl⟩ : ∃ y, y = x2 := ⟨_, rfl⟩
 refine wp_seq_k fun K41 k41 => ?_
 refine sS H fun K42 k42=>sr 1 rfl <| sf fo_25_2 rfl <| sl S 1 one_23 rfl rfl rfl <| sL sl_23 rfl <| sr 1 rfl <| sE ?_;clear H a;intro a H
 refine k42 _ ?_;clear k42 K42
 refine condL H rfl (fun hc13 => ?_) (fun hc13 => ?_)
 ·skip
  refine wp_skip ?_
  refine k41 _ _ ?_
  refine wp_seq_k fun K43 k43 => ?_
  refine wp_block ?_
  replace H := H.keep [1, 6] rfl
  replace S := S.drew
  refine sD H fun K44 k44=>sf fo_25_2 rfl <| sl S 1 one_23 rfl rfl rfl <| sr 1 rfl <| si sl_23 sz_3 rfl rfl (hxs.adr (by omega)) (by omega) <| slm one_3 rfl (hxs.rd S (by omega) (by omega)) <| sf fo_25_0 rfl <| sl S 1 one_3 rfl rfl rfl <| sd (does_sub rfl rfl (by unfold i64ok; omega)) <| sc rfl Try.func71 rfl rfl (w8ref_from _ _ _ _) <| sr 2 rfl <| sg 16 10 123 139 false rfl rfl (fun hg11 => by
      have hq11 := hg11;try simp only [o1,o2,o3,o4,o5,o6,o7,o8,o9,oa] at hq11
      exact sy hg11 <| sr 1 rfl <| sy hg11 <| sr 1 rfl <| sy hg11 <| sr 1 rfl <| sg 12 13 126 138 true rfl rfl (fun hg14 => by
           have hq14 := hg14;try simp only [o1,o2,o3,o4,o5,o6,o7,o8,o9,oa] at hq14
           exact sy hg14 <| sf fo_25_2 rfl <| sy hg14 <| sl S 1 one_23 rfl rfl rfl <| sy hg14 <| sr 1 rfl <| sy hg14 <| si sl_23 sz_3 rfl rfl (hxs.adr (by omega)) (by omega) <| sy hg14 <| slm one_3 rfl (hxs.rd S (by omega) (by omega)) <| sy hg14 <| sf fo_25_2 rfl <| sy hg14 <| sl S 1 one_23 rfl rfl rfl <| sy hg14 <| sr 1 rfl <| sy hg14 <| sd (does_sub rfl rfl (by unfold i64ok; omega)) <| sy hg14 <| sI sl_23 sz_3 rfl rfl (hxs.adr (by omega)) (by omega) (by omega) <| sy hg14 <| slm one_3 rfl (hxs.rd S (by omega) (by omega)) <| sy hg14 <| sr 1 rfl <| sz 12 rfl rfl rfl) <| sy hg11 <| sa rfl rfl rfl <| sz 5 rfl rfl rfl) <| so rfl rfl rfl <| sE ?_;clear H a;intro a H
  refine k44 _ ?_;clear k44 K44
  refine cond_ H rfl (fun hc14 => ?_) (fun hc14 => ?_)
  ·skip
   try simp only [o1,o2,o3,o4,o5,o6,o7,o8,o9,oa] at hc14
   rw [show ((k2 : Int) - 1).toNat = k2 - 1 by omega] at hc14
   replace H := H.keep [] rfl
   refine sS H fun K45 k45=>sr 1 rfl <| sE ?_;clear H a;intro a H
   refine k45 _ ?_;clear k45 K45
   refine wp_ret ?_
   refine ret1 (fn := Try.f47) rfl H rfl ?_
   exact ⟨congrArg _ (st_ex (k := k2) (by omega) (exOk_no (by omega))).symm, (S.sel [] rfl rfl)⟩
  try simp only [o1,o2,o3,o4,o5,o6,o7,o8,o9,oa] at hc14
  rw [show ((k2 : Int) - 1).toNat = k2 - 1 by omega] at hc14
  refine wp_skip ?_
  refine k43 _ _ ?_
  refine sO H <| sr 1 rfl <| sd (does_add rfl rfl (by unfold i64ok; omega)) <| sr 1 rfl <| sE ?_;clear H a;intro a H
  exact k40 (g2 - 1) (k2 + 1) a _ (by omega) (⟨by omega, by omega, allN_step hp.2.2 (exOk_of (by omega))⟩) (S.sel [0, 1] rfl rfl) (H.keep [6, 1] rfl)
 refine wp_exit ?_
 refine k38 _ _ ?_
 refine sS H fun K47 k47=>sr 1 rfl <| sE ?_;clear H a;intro a H
 refine k47 _ ?_;clear k47 K47
 refine wp_ret ?_
 refine ret1 (fn := Try.f47) rfl H rfl ?_
 have hk9 : k = ps.length := by omega
 have hk8 : k2 = xs.length := by omega
 exact ⟨congrArg _ (st_ok (by omega) (hk9 ▸ hA) (hk8 ▸ hp.2.2)).symm, (S.sel [] rfl rfl)⟩

end Go.Proofs.Ytopmadlgolnmfaa
