/- WyJ. Printed by gen.py. -/
import Derived.Test.YtopmadlgolnmfaaWyH
import Derived.Test.YtopmadlgolnmfaaE4
import Derived.Test.YtopmadlgolnmfaaE3
namespace Go.Proofs.Ytopmadlgolnmfaa
open Go.RowKit
set_option linter.unusedVariables false
set_option linter.unusedSimpArgs false
set_option maxRecDepth 100000
set_option maxHeartbeats 4000000


theorem StV.mch {P : Nat} {ps : List Psg} {xs : List Int} (h : StV P ps xs) (k : Nat) (hk : k < ps.length) : (ps.getD k Psg.zero).kind = 4 → 0 ≤ (ps.getD k Psg.zero).mach ∧ (ps.getD k Psg.zero).mach ≤ 11 := fun h4 => by
  have := psgOk_iff.1 (h.pas k hk)
  omega
theorem far0_put {k : Nat} : ∀ q j, j < 1 → cput (lcl fun i => if i < k then -1 else 0) k 0 (.int .i64 (-1)) q j = lcl (fun i => if i < k + 1 then -1 else 0) q j := by
  intro q j hj
  have : j = 0 := by omega
  subst this
  unfold cput lcl
  dsimp only
  by_cases e : q = k
  · subst e; rw [if_pos ⟨rfl, rfl⟩, if_pos (by omega)]
  · rw [if_neg (fun h => e h.1)]
    by_cases h : q < k
    · rw [if_pos h, if_pos (by omega)]
    · rw [if_neg h, if_neg (by omega)]
theorem far1_put {P k to : Nat} (hk : k = P) : ∀ q j, q < P → j < 1 → cput (lcl fun i => if i < k then -1 else 0) to 0 (.int .i64 0) q j = lcl (tk0 to) q j := by
  intro q j hq hj
  have : j = 0 := by omega
  subst this
  unfold cput lcl tk0
  dsimp only
  by_cases e : q = to
  · subst e; rw [if_pos ⟨rfl, rfl⟩, if_pos rfl]
  · rw [if_neg (fun h => e h.1), if_pos (by omega), if_neg e]
theorem far_put {L : Nat → Int} {p : Nat} {v : Int} : ∀ k j, j < 1 → cput (lcl L) p 0 (.int .i64 v) k j = lcl (upd L p v) k j := by
  intro k j hj
  have : j = 0 := by omega
  subst this
  unfold cput lcl upd
  by_cases e : k = p <;> simp [e]
theorem b2_t {m : Bool} (h : m = true) : b2i m = 1 := by subst h; rfl
theorem fx_all {P f : Nat} {ps : List Psg} {out : Int} {help : Bool} {tk : Nat → Int} {m : Bool} (e : P = f) (h : m = false → ∀ i, i < f → ∀ k, k < ps.length → FixAt ps out help tk i k) : m = false → ∀ i, i < P → ∀ k, k < ps.length → FixAt ps out help tk i k := by subst e; exact h
theorem mk_lcl : ∀ k j, j < 1 → [Value.int .i64 0].getD j undef = lcl (fun i => if i < 0 then -1 else 0) k j := by
  intro k j hj
  have : j = 0 := by omega
  subst this
  rfl


theorem ways_place (pl : Int) (ps : List Psg) (PA : Option Addr) (pc : Nat) (xs : List Int) (XA : Option Addr) (xc : Nat) (l : List Int) (LA : Option Addr) (lc : Nat) (w : World) (hl : InS w noF 1 LA l.length (icl l)) (hln : l.length ≤ 9223372036854775807) (hpl : -1000 ≤ pl ∧ pl ≤ 1000) :
    Calls Try.prog 44 [.agg [.int .i64 pl, .slice PA ps.length pc, .slice XA xs.length xc].toArray, .slice LA l.length lc].toArray w (Ret (fun v w' => v = .bool (plOk pl l) ∧ St w noF [] w')) := by
 refine enter Try.func44 rfl Try.ntmps44 rfl (fun a H => ?_)
 have S := St.start w
 refine seq_list fun K1 k1 => ?_
 refine list_box H rfl S rfl rfl ?_;clear H a S;intro b2 _ a hb2 hbw2 S H
 refine ls 1 H <| sr 1 rfl <| sE ?_;clear H a;intro a H
 refine k1 _ _ ?_;clear k1 K1
 refine wp_seq_k fun K2 k2 => ?_
 refine sS H fun K3 k3=>sr 1 rfl <| sL sl_23 rfl <| sr 1 rfl <| sE ?_;clear H a;intro a H
 refine k3 _ ?_;clear k3 K3
 refine wp_block ?_
 refine loop_st (X := Nat) (R0 := _) [2, 7, 8] H rfl (fun k => [(9, .int .i64 (k : Int))]) (fun k => []) (fun g k => k ≤ l.length ∧ g + k = l.length ∧ allN (fun k => decide (0 ≤ l.getD k 0 ∧ l.getD k 0 ≤ pl - 1)) k = true) (l.length) 0 ?_ (S.sel [0] rfl rfl) (H.keep [9, 2, 7, 8] rfl) ?_
 · exact ⟨by omega, by omega, rfl⟩
 clear H S a
 intro g1 x1 a w1 hp S H K4 k4
 obtain ⟨k, rfl⟩ : ∃ y, y = x1 := ⟨_, rfl⟩
 refine sS H fun K5 k5=>sr 1 rfl <| sE ?_;clear H a;intro a H
 refine k5 _ ?_;clear k5 K5
 refine wp_seq_k fun K6 k6 => ?_
 refine condL H rfl (fun hc1 => ?_) (fun hc1 => ?_)
 ·skip
  refine wp_skip ?_
  refine k6 _ _ ?_
  refine wp_seq_k fun K7 k7 => ?_
  refine wp_block ?_
  refine sS H fun K8 k8=>si sl_23 sz_3 rfl rfl (hl.adr (by omega)) (by omega) <| slm one_3 rfl (hl.rd S (by omega) (by omega)) <| sr 1 rfl <| sE ?_;clear H a;intro a H
  refine k8 _ ?_;clear k8 K8
  replace H := H.keep [2, 6, 7, 8, 9] rfl
  refine sS H fun K9 k9=>sr 1 rfl <| sf fo_25_0 rfl <| sl S 0 one_3 rfl rfl rfl <| sd (does_sub rfl rfl (by unfold i64ok; omega)) <| sc rfl Try.func42 rfl rfl (ways_within _ _ _ _) <| sr 1 rfl <| sE ?_;clear H a;intro a H
  refine k9 _ ?_;clear k9 K9
  refine cond_ H rfl (fun hc2 => ?_) (fun hc2 => ?_)
  ·skip
   try simp only [o1,o2,o3,o4,o5,o6,o7,o8,o9,oa] at hc2
   refine sS H fun K10 k10=>sr 1 rfl <| sE ?_;clear H a;intro a H
   refine k10 _ ?_;clear k10 K10
   refine wp_ret ?_
   refine ret1 (fn := Try.f44) rfl H rfl ?_
   exact ⟨congrArg Value.bool (plOk_false (k := k) (by omega) (by omega)).symm, (S.sel [] rfl rfl)⟩
  try simp only [o1,o2,o3,o4,o5,o6,o7,o8,o9,oa] at hc2
  refine wp_skip ?_
  refine k7 _ _ ?_
  refine sO H <| sd (does_add rfl rfl (by unfold i64ok; omega)) <| sr 1 rfl <| sE ?_;clear H a;intro a H
  exact k4 (g1 - 1) (k + 1) a _ (by omega) (⟨by omega, by omega, allN_step hp.2.2 (by rw [decide_eq_true_eq]; omega)⟩) (S.sel [0] rfl rfl) (H.keep [9, 2, 7, 8] rfl)
 refine wp_exit ?_
 refine k2 _ _ ?_
 replace H := H.keep [] rfl
 refine sS H fun K12 k12=>sr 1 rfl <| sE ?_;clear H a;intro a H
 refine k12 _ ?_;clear k12 K12
 refine wp_ret ?_
 refine ret1 (fn := Try.f44) rfl H rfl ?_
 refine ⟨congrArg Value.bool ?_, (S.sel [] rfl rfl)⟩; unfold plOk; rw [show l.length = k by omega, hp.2.2]

theorem level_other (P : Nat) (ps : List Psg) (PA : Option Addr) (pc : Nat) (xs : List Int) (XA : Option Addr) (xc : Nat) (out : Int) (help : Bool) (p : Psg) (f : Int) (w : World) (hm : p.kind = 4 → 0 ≤ p.mach ∧ p.mach ≤ 11) (hou : 0 ≤ out) :
    Calls Try.prog 94 [.agg [.int .i64 (P : Int), .slice PA ps.length pc, .slice XA xs.length xc, .int .i64 out, .bool help].toArray, .agg [.int .i64 p.a, .int .i64 p.b, .int .i64 p.kind, .int .i64 p.ticks, .int .i64 p.wide, .int .i64 p.mach, .int .i64 p.still].toArray, .int .i64 f].toArray w (Ret (fun v w' => v = .int .i64 (oth out help p f) ∧ St w noF [] w')) := by
 refine enter Try.func94 rfl Try.ntmps94 rfl (fun a H => ?_)
 have S := St.start w
 refine seq_list fun K1 k1 => ?_
 refine list_box H rfl S rfl rfl ?_;clear H a S;intro b3 _ a hb3 hbw3 S H
 refine list_box H rfl S rfl rfl ?_;clear H a S;intro b4 _ a hb4 hbw4 S H
 refine ls 1 H <| sr 1 rfl <| sE ?_;clear H a;intro a H
 refine k1 _ _ ?_;clear k1 K1
 replace H := H.keep [2, 3, 4] rfl
 refine sS H fun K2 k2=>sf fo_128_2 rfl <| sl S 0 one_3 rfl rfl rfl <| sr 2 rfl <| sg 12 3 11 23 false rfl rfl (fun hg4 => by
     have hq4 := hg4;try simp only [o1,o2,o3,o4,o5,o6,o7,o8,o9,oa] at hq4
     exact sy hg4 <| sf fo_128_2 rfl <| sy hg4 <| sl S 0 one_3 rfl rfl rfl <| sy hg4 <| sr 1 rfl <| sy hg4 <| sr 1 rfl <| sg 7 7 15 22 true rfl rfl (fun hg8 => by
          have hq8 := hg8;try simp only [o1,o2,o3,o4,o5,o6,o7,o8,o9,oa] at hq8
          exact sy hg8 <| sf fo_98_1 rfl <| sy hg8 <| sl S 1 one_3 rfl rfl rfl <| sy hg8 <| sf fo_128_5 rfl <| sy hg8 <| sl S 0 one_3 rfl rfl rfl <| sy hg8 <| sd (does_shr rfl rfl (by omega) (by omega)) <| sy hg8 <| sd (does_and1 rfl rfl) <| sy hg8 <| sr 1 rfl <| sz 7 rfl rfl rfl) <| sy hg4 <| sa rfl rfl rfl <| sz 6 rfl rfl rfl) <| so rfl rfl rfl <| sr 1 rfl <| sg 7 17 25 32 false rfl rfl (fun hg18 => by
     have hq18 := hg18;try simp only [o1,o2,o3,o4,o5,o6,o7,o8,o9,oa] at hq18
     exact sy hg18 <| sf fo_128_2 rfl <| sy hg18 <| sl S 0 one_3 rfl rfl rfl <| sy hg18 <| sr 1 rfl <| sy hg18 <| sr 1 rfl <| sg 2 21 29 31 true rfl rfl (fun hg22 => by
          have hq22 := hg22;try simp only [o1,o2,o3,o4,o5,o6,o7,o8,o9,oa] at hq22
          exact sy hg22 <| sf fo_98_2 rfl <| sy hg22 <| sl S 1 one_4 rfl rfl rfl <| sz 2 rfl rfl rfl) <| sy hg18 <| sa rfl rfl rfl <| sz 6 rfl rfl rfl) <| so rfl rfl rfl <| sr 1 rfl <| sE ?_;clear H a;intro a H
 refine k2 _ ?_;clear k2 K2
 refine wp_seq_k fun K3 k3 => ?_
 refine wp_block ?_
 replace H := H.keep [2, 4, 7] rfl
 refine sS H fun K4 k4=>sr 3 rfl <| sE ?_;clear H a;intro a H
 refine k4 _ ?_;clear k4 K4
 refine cond_ H rfl (fun hc1 => ?_) (fun hc1 => ?_)
 ·skip
  try simp only [o1,o2,o3,o4,o5,o6,o7,o8,o9,oa] at hc1
  refine sS H fun K5 k5=>sr 1 rfl <| sE ?_;clear H a;intro a H
  refine k5 _ ?_;clear k5 K5
  refine wp_ret ?_
  refine ret1 (fn := Try.f94) rfl H rfl ?_
  refine ⟨congrArg (Value.int .i64) ?_, (S.sel [] rfl rfl)⟩; unfold oth; rw [if_pos (opn_f hc1)]
 try simp only [o1,o2,o3,o4,o5,o6,o7,o8,o9,oa] at hc1
 refine sS H fun K6 k6=>sf fo_128_0 rfl <| sl S 0 one_3 rfl rfl rfl <| sr 3 rfl <| sE ?_;clear H a;intro a H
 refine k6 _ ?_;clear k6 K6
 refine condE H rfl (fun hc2 => ?_) (fun hc2 => ?_)
 ·skip
  replace H := H.keep [4] rfl
  refine sS H fun K7 k7=>sf fo_128_1 rfl <| sl S 0 one_3 rfl rfl rfl <| sr 1 rfl <| sE ?_;clear H a;intro a H
  refine k7 _ ?_;clear k7 K7
  refine wp_ret ?_
  refine ret1 (fn := Try.f94) rfl H rfl ?_
  refine ⟨congrArg (Value.int .i64) ?_, (S.sel [] rfl rfl)⟩; unfold oth othr; rw [if_neg (by rw [opn_t hc1]; simp), if_pos hc2]
 refine sS H fun K8 k8=>sf fo_128_1 rfl <| sl S 0 one_3 rfl rfl rfl <| sr 3 rfl <| sE ?_;clear H a;intro a H
 refine k8 _ ?_;clear k8 K8
 refine condE H rfl (fun hc3 => ?_) (fun hc3 => ?_)
 ·skip
  replace H := H.keep [4] rfl
  refine sS H fun K9 k9=>sf fo_128_0 rfl <| sl S 0 one_3 rfl rfl rfl <| sr 1 rfl <| sE ?_;clear H a;intro a H
  refine k9 _ ?_;clear k9 K9
  refine wp_ret ?_
  refine ret1 (fn := Try.f94) rfl H rfl ?_
  refine ⟨congrArg (Value.int .i64) ?_, (S.sel [] rfl rfl)⟩; unfold oth othr; rw [if_neg (by rw [opn_t hc1]; simp), if_neg hc2, if_pos hc3]
 refine wp_skip ?_
 refine k3 _ _ ?_
 refine sS H fun K10 k10=>sr 1 rfl <| sE ?_;clear H a;intro a H
 refine k10 _ ?_;clear k10 K10
 refine wp_ret ?_
 refine ret1 (fn := Try.f94) rfl H rfl ?_
 refine ⟨congrArg (Value.int .i64) ?_, (S.sel [] rfl rfl)⟩; unfold oth othr; rw [if_neg (by rw [opn_t hc1]; simp), if_neg hc2, if_neg hc3]

theorem level_far (P : Nat) (ps : List Psg) (PA : Option Addr) (pc : Nat) (xs : List Int) (XA : Option Addr) (xc : Nat) (out : Int) (help : Bool) (to : Int) (w : World) (hps : InS w noF 7 PA ps.length (pcell ps)) (hpn : ps.length ≤ 9223372036854775807) (hxs : InS w noF 1 XA xs.length (icl xs)) (hxn : xs.length ≤ 9223372036854775807) (hV : StV P ps xs) (hou : 0 ≤ out) (hto : 0 ≤ to ∧ to < P) :
    Calls Try.prog 70 [.agg [.int .i64 (P : Int), .slice PA ps.length pc, .slice XA xs.length xc, .int .i64 out, .bool help].toArray, .int .i64 to].toArray w (Ret (fun v w' => ∃ A c, v = .slice A P c ∧ FarOk P ps out help to.toNat (dst P ps out help to.toNat) ∧ St w noF [ownM 3 1 A P c (lcl (dst P ps out help to.toNat))] w')) := by
 have hP10 := hV.size
 refine enter Try.func70 rfl Try.ntmps70 rfl (fun a H => ?_)
 have S := St.start w
 refine seq_list fun K1 k1 => ?_
 refine list_box H rfl S rfl rfl ?_;clear H a S;intro b2 _ a hb2 hbw2 S H
 refine ls 1 H <| sr 1 rfl <| sE ?_;clear H a;intro a H
 refine k1 _ _ ?_;clear k1 K1
 refine seq_list fun K2 k2 => ?_
 refine ls 3 H <| sf fo_98_0 rfl <| sf fo_25_0 rfl <| sl S 0 one_3 rfl rfl rfl <| sE ?_;clear H a;intro a H
 refine list_make (n := _) H rfl S sl_23 sz_3 ze_3 by_3 rfl (by decide) rfl rfl (by omega) (by omega) ?_;clear H a S;intro A1 _ a hA1 S H
 replace S := S.recell (i := 0) rfl (cell' := lcl (fun i => if i < 0 then -1 else 0)) (fun k j hk hj => mk_lcl k j hj)
 refine ls 1 H <| sr 1 rfl <| sE ?_;clear H a;intro a H
 refine k2 _ _ ?_;clear k2 K2
 refine wp_seq_k fun K3 k3 => ?_
 replace H := H.keep [1, 2, 5] rfl
 refine sS H fun K4 k4=>sr 1 rfl <| sL sl_23 rfl <| sr 1 rfl <| sE ?_;clear H a;intro a H
 refine k4 _ ?_;clear k4 K4
 refine wp_block ?_
 refine loop_st (X := Nat) (R0 := _) [1, 2, 5, 18] H rfl (fun k => [(19, .int .i64 (k : Int))]) (fun k => [ownM 3 1 A1 P P (lcl (fun i => if i < k then -1 else 0))]) (fun g k => k ≤ P ∧ g + k = P) (P) 0 ?_ (S.sel [0, 1] rfl rfl) (H.keep [19, 1, 2, 5, 18] rfl) ?_
 · exact ⟨by omega, by omega⟩
 clear H S a
 intro g1 x1 a w1 hp S H K5 k5
 obtain ⟨k, rfl⟩ : ∃ y, y = x1 := ⟨_, rfl⟩
 refine sS H fun K6 k6=>sr 1 rfl <| sE ?_;clear H a;intro a H
 refine k6 _ ?_;clear k6 K6
 refine wp_seq_k fun K7 k7 => ?_
 refine condL H rfl (fun hc1 => ?_) (fun hc1 => ?_)
 ·skip
  refine wp_skip ?_
  refine k7 _ _ ?_
  refine wp_seq_k fun K8 k8 => ?_
  refine wp_block ?_
  refine sS H fun K9 k9=>sr 2 rfl <| sE ?_;clear H a;intro a H
  refine k9 _ ?_;clear k9 K9
  refine one_list ?_
  refine ls 3 H <| sr 2 rfl <| si sl_23 sz_3 rfl rfl (ownM.adr S (i := 0) rfl (by omega)) (by omega) <| sE ?_;clear H a;intro a H
  refine list_store_own H S (i := 0) rfl rfl rfl (by omega) (by omega) sz_3 rfl ?_
  clear H a S;intro _ a S H
  replace S := S.recell (i := 0) rfl (cell' := lcl (fun i => if i < k + 1 then -1 else 0)) (fun q j hq hj => far0_put q j hj)
  refine k8 _ _ ?_
  refine sO H <| sd (does_add rfl rfl (by unfold i64ok; omega)) <| sr 1 rfl <| sE ?_;clear H a;intro a H
  exact k5 (g1 - 1) (k + 1) a _ (by omega) (⟨by omega, by omega⟩) (S.sel [0, 1] rfl rfl) (H.keep [19, 1, 2, 5, 18] rfl)
 refine wp_exit ?_
 refine k3 _ _ ?_
 replace H := H.keep [1, 2, 5] rfl
 refine seq_list fun K12 k12 => ?_
 refine ls 3 H <| sr 2 rfl <| sI sl_23 sz_3 rfl rfl (ownM.adr S (i := 0) rfl (by omega)) (by omega) (by omega) <| sE ?_;clear H a;intro a H
 refine list_store_own H S (i := 0) rfl rfl rfl (by omega) (by omega) sz_3 rfl ?_
 clear H a S;intro _ a S H
 replace S := S.recell (i := 0) rfl (cell' := lcl (tk0 to.toNat)) (fun q j hq hj => far1_put (by omega) q j hq hj)
 refine k12 _ _ ?_;clear k12 K12
 refine wp_seq_k fun K13 k13 => ?_
 refine sS H fun K14 k14=>sr 1 rfl <| sE ?_;clear H a;intro a H
 refine k14 _ ?_;clear k14 K14
 refine wp_block ?_
 refine loop_st (X := (Nat → Int) × Bool) (R0 := _) [2, 5] H rfl (fun ⟨tk, mo⟩ => [(7, .bool mo)]) (fun ⟨tk, mo⟩ => [ownM 3 1 A1 P P (lcl tk)]) (fun g ⟨tk, mo⟩ => FarI P ps out help to.toNat tk ∧ potF P tk + b2i mo ≤ (g : Int) ∧ (mo = false → ∀ i, i < P → ∀ k, k < ps.length → FixAt ps out help tk i k)) ((potF P (tk0 to.toNat) + 1).toNat) (tk0 to.toNat, true) ?_ (S.sel [0, 1] rfl rfl) (H.keep [7, 2, 5] rfl) ?_
 · exact ⟨FarI.init (by omega), by have := potF_nn (P := P) (tk := tk0 to.toNat); show potF P (tk0 to.toNat) + 1 ≤ _; omega, fun h => by cases h⟩
 clear H S a
 intro g2 x2 a w2 hp S H K15 k15
 obtain ⟨tk, mo⟩ := x2
 dsimp only at hp S H
 obtain ⟨hI, hpot, hfx⟩ := hp
 have hpn0 := potF_nn (P := P) (tk := tk)
 refine wp_seq_k fun K16 k16 => ?_
 refine sS H fun K17 k17=>sr 1 rfl <| sE ?_;clear H a;intro a H
 refine k17 _ ?_;clear k17 K17
 refine cond_ H rfl (fun hc2 => ?_) (fun hc2 => ?_)
 ·skip
  try simp only [o1,o2,o3,o4,o5,o6,o7,o8,o9,oa] at hc2
  have hb9 := b2_t hc2
  refine wp_skip ?_
  refine k16 _ _ ?_
  refine wp_block ?_
  refine sS H fun K18 k18=>sr 1 rfl <| sE ?_;clear H a;intro a H
  refine k18 _ ?_;clear k18 K18
  refine sS H fun K19 k19=>sf fo_98_0 rfl <| sf fo_25_0 rfl <| sl S 1 one_3 rfl rfl rfl <| sr 1 rfl <| sE ?_;clear H a;intro a H
  refine k19 _ ?_;clear k19 K19
  refine wp_block ?_
  refine loop_st (X := Nat × (Nat → Int) × Bool) (R0 := _) [2, 5, 32] H rfl (fun ⟨f, tk1, m1⟩ => [(7, .bool m1), (33, .int .i64 (f : Int))]) (fun ⟨f, tk1, m1⟩ => [ownM 3 1 A1 P P (lcl tk1)]) (fun g ⟨f, tk1, m1⟩ => f ≤ P ∧ g + f = P ∧ FarI P ps out help to.toNat tk1 ∧ potF P tk1 + b2i m1 ≤ potF P tk ∧ (m1 = false → ∀ i, i < f → ∀ k, k < ps.length → FixAt ps out help tk1 i k)) (P) (0, tk, false) ?_ (S.sel [0, 1] rfl rfl) (H.keep [7, 33, 2, 5, 32] rfl) ?_
  · exact ⟨by omega, by omega, hI, by show potF P tk + 0 ≤ _; omega, fun _ i hi => absurd hi (Nat.not_lt_zero i)⟩
  clear H S a
  intro g3 x3 a w3 hp S H K20 k20
  obtain ⟨f, tk1, m1⟩ := x3
  dsimp only at hp S H
  obtain ⟨hfP, hgf, hI1, hpot1, hfx1⟩ := hp
  refine sS H fun K21 k21=>sr 1 rfl <| sE ?_;clear H a;intro a H
  refine k21 _ ?_;clear k21 K21
  refine wp_seq_k fun K22 k22 => ?_
  refine condL H rfl (fun hc3 => ?_) (fun hc3 => ?_)
  ·skip
   refine wp_skip ?_
   refine k22 _ _ ?_
   refine wp_seq_k fun K23 k23 => ?_
   refine wp_block ?_
   refine sS H fun K24 k24=>sr 2 rfl <| sE ?_;clear H a;intro a H
   refine k24 _ ?_;clear k24 K24
   refine sS H fun K25 k25=>sf fo_98_0 rfl <| sf fo_25_1 rfl <| sl S 1 one_22 rfl rfl rfl <| sL sl_22 rfl <| sr 1 rfl <| sE ?_;clear H a;intro a H
   refine k25 _ ?_;clear k25 K25
   refine wp_block ?_
   refine loop_st (X := Nat × (Nat → Int) × Bool) (R0 := _) [2, 5, 8, 32, 33, 38, 39] H rfl (fun ⟨k, tk2, m2⟩ => [(7, .bool m2), (40, .int .i64 (k : Int))]) (fun ⟨k, tk2, m2⟩ => [ownM 3 1 A1 P P (lcl tk2)]) (fun g ⟨k, tk2, m2⟩ => k ≤ ps.length ∧ g + k = ps.length ∧ FarI P ps out help to.toNat tk2 ∧ potF P tk2 + b2i m2 ≤ potF P tk ∧ (m2 = false → (∀ i, i < f → ∀ k, k < ps.length → FixAt ps out help tk2 i k) ∧ ∀ q, q < k → FixAt ps out help tk2 f q)) (ps.length) (0, tk1, m1) ?_ (S.sel [0, 1] rfl rfl) (H.keep [7, 40, 2, 5, 8, 32, 33, 38, 39] rfl) ?_
   · exact ⟨by omega, by omega, hI1, hpot1, fun h => ⟨hfx1 h, fun q hq => absurd hq (Nat.not_lt_zero q)⟩⟩
   clear H S a
   intro g4 x4 a w4 hp S H K26 k26
   obtain ⟨k, tk2, m2⟩ := x4
   dsimp only at hp S H
   obtain ⟨hkl, hgk, hI2, hpot2, hfx2⟩ := hp
   refine sS H fun K27 k27=>sr 1 rfl <| sE ?_;clear H a;intro a H
   refine k27 _ ?_;clear k27 K27
   refine wp_seq_k fun K28 k28 => ?_
   refine condL H rfl (fun hc4 => ?_) (fun hc4 => ?_)
   ·skip
    refine wp_skip ?_
    refine k28 _ _ ?_
    refine wp_seq_k fun K29 k29 => ?_
    refine wp_block ?_
    refine seq_list fun K30 k30 => ?_
    refine ls 2 H <| si sl_22 sz_128 rfl rfl (hps.adr (by omega)) (by omega) <| sd ((does_loadIn agg_128 sz_128 rfl S hps (by omega) (by omega))) <| sE ?_;clear H a;intro a H
    refine list_alloc H rfl S ze_128 ?_;clear H a S;intro b10 _ a hb10 hbw10 S H
    refine list_store H S (i := 0) rfl rfl rfl rfl sz_128 rfl rfl ?_
    clear H a S;intro _ a S H
    refine k30 _ _ ?_;clear k30 K30
    replace H := H.keep [2, 5, 7, 8, 10, 32, 33, 38, 39, 40] rfl
    refine seq_list fun K31 k31 => ?_
    refine ls 3 H <| sd ((does_loadBox agg_98 sz_98 rfl S (i := 2) rfl rfl)) <| sd ((does_loadBox agg_128 sz_128 rfl S (i := 0) rfl rfl)) <| sr 1 rfl <| sE ?_;clear H a;intro a H
    refine list_call H rfl rfl Try.func94 rfl rfl (level_other P ps PA pc xs XA xc out help (ps.getD k Psg.zero) (f : Int) _ (hV.mch k (by omega)) hou) ?_;clear H a
    rintro _ _ a ⟨rfl, S2⟩ H
    replace S := S.call S2;clear S2
    have hoi : 0 ≤ oth out help (ps.getD k Psg.zero) (f : Int) → oth out help (ps.getD k Psg.zero) (f : Int) < P := fun h => (oth_in hV.psv (show k < ps.length by omega) h).2.1
    have htb := (hV.psv k (by omega)).2.2
    refine ls 1 H <| sr 1 rfl <| sE ?_;clear H a;intro a H
    refine k31 _ _ ?_;clear k31 K31
    refine wp_seq_k fun K32 k32 => ?_
    replace H := H.keep [2, 5, 7, 8, 10, 11, 32, 33, 38, 39, 40] rfl
    refine sS H fun K33 k33=>sr 3 rfl <| sg 5 2 50 55 false rfl rfl (fun hg3 => by
        have hq3 := hg3;try simp only [o1,o2,o3,o4,o5,o6,o7,o8,o9,oa] at hq3
        exact sy hg3 <| sr 1 rfl <| sy hg3 <| sr 1 rfl <| sy hg3 <| sI sl_23 sz_3 rfl rfl (ownM.adr S (i := 1) rfl (by omega)) (by omega) (by omega) <| sy hg3 <| slm one_3 rfl (ownM.rd S (i := 1) rfl (by omega) (by omega)) <| sy hg3 <| sr 1 rfl <| sz 5 rfl rfl rfl) <| so rfl rfl rfl <| sE ?_;clear H a;intro a H
    refine k33 _ ?_;clear k33 K33
    refine cond_ H rfl (fun hc5 => ?_) (fun hc5 => ?_)
    ·skip
     try simp only [o1,o2,o3,o4,o5,o6,o7,o8,o9,oa] at hc5
     refine wp_exit ?_
     refine k29 _ _ ?_
     replace H := H.keep [2, 5, 7, 8, 32, 33, 38, 39, 40] rfl
     refine sO H <| sd (does_add rfl rfl (by unfold i64ok; omega)) <| sr 1 rfl <| sE ?_;clear H a;intro a H
     exact k26 (g4 - 1) (k + 1, _, _) a _ (by omega) (by first | exact ⟨by omega, by omega, hI2.up hV.psv (by omega) (by omega) (by omega) (by omega) (by omega) (by omega) (by omega) hpot2⟩ | exact ⟨by omega, by omega, hI2, hpot2, fx_next (P := P) hfx2 (fixAt_of (by omega))⟩) (S.sel [1, 2] rfl rfl) (H.keep [7, 40, 2, 5, 8, 32, 33, 38, 39] rfl)
    try simp only [o1,o2,o3,o4,o5,o6,o7,o8,o9,oa] at hc5
    refine wp_skip ?_
    refine k32 _ _ ?_
    have hsm := hI2.small (by omega) (i := (oth out help (ps.getD k Psg.zero) f).toNat) (by omega)
    replace H := H.keep [2, 5, 7, 8, 10, 11, 32, 33, 38, 39, 40] rfl
    replace S := S.drew
    refine sD H fun K35 k35=>sr 2 rfl <| sI sl_23 sz_3 rfl rfl (ownM.adr S (i := 1) rfl (by omega)) (by omega) (by omega) <| slm one_3 rfl (ownM.rd S (i := 1) rfl (by omega) (by omega)) <| sf fo_128_3 rfl <| sl S 0 one_3 rfl rfl rfl <| sd (does_add rfl rfl (by unfold i64ok; omega)) <| sr 1 rfl <| sE ?_;clear H a;intro a H
    refine k35 _ ?_;clear k35 K35
    replace H := H.keep [2, 5, 7, 8, 12, 32, 33, 38, 39, 40] rfl
    refine sS H fun K36 k36=>sr 2 rfl <| si sl_23 sz_3 rfl rfl (ownM.adr S (i := 1) rfl (by omega)) (by omega) <| slm one_3 rfl (ownM.rd S (i := 1) rfl (by omega) (by omega)) <| sr 2 rfl <| sg 6 5 69 75 false rfl rfl (fun hg6 => by
        have hq6 := hg6;try simp only [o1,o2,o3,o4,o5,o6,o7,o8,o9,oa] at hq6
        exact sy hg6 <| sr 1 rfl <| sy hg6 <| sr 1 rfl <| sy hg6 <| sr 1 rfl <| sy hg6 <| si sl_23 sz_3 rfl rfl (ownM.adr S (i := 1) rfl (by omega)) (by omega) <| sy hg6 <| slm one_3 rfl (ownM.rd S (i := 1) rfl (by omega) (by omega)) <| sy hg6 <| sr 1 rfl <| sz 6 rfl rfl rfl) <| so rfl rfl rfl <| sE ?_;clear H a;intro a H
    refine k36 _ ?_;clear k36 K36
    refine cond_ H rfl (fun hc6 => ?_) (fun hc6 => ?_)
    ·skip
     try simp only [o1,o2,o3,o4,o5,o6,o7,o8,o9,oa] at hc6
     replace H := H.keep [2, 5, 8, 12, 32, 33, 38, 39, 40] rfl
     refine one_list ?_
     refine ls 4 H <| sr 3 rfl <| si sl_23 sz_3 rfl rfl (ownM.adr S (i := 1) rfl (by omega)) (by omega) <| sE ?_;clear H a;intro a H
     refine list_store_own H S (i := 1) rfl rfl rfl (by omega) (by omega) sz_3 rfl ?_
     clear H a S;intro _ a S H
     replace S := S.recell (i := 1) rfl (cell' := lcl (upd tk2 f (tk2 (oth out help (ps.getD k Psg.zero) f).toNat + (ps.getD k Psg.zero).ticks))) (fun q j hq hj => far_put q j hj)
     refine ls 1 H <| sr 1 rfl <| sE ?_;clear H a;intro a H
     refine k29 _ _ ?_
     refine sO H <| sd (does_add rfl rfl (by unfold i64ok; omega)) <| sr 1 rfl <| sE ?_;clear H a;intro a H
     exact k26 (g4 - 1) (k + 1, _, _) a _ (by omega) (by first | exact ⟨by omega, by omega, hI2.up hV.psv (by omega) (by omega) (by omega) (by omega) (by omega) (by omega) (by omega) hpot2⟩ | exact ⟨by omega, by omega, hI2, hpot2, fx_next (P := P) hfx2 (fixAt_of (by omega))⟩) (S.sel [1, 2] rfl rfl) (H.keep [7, 40, 2, 5, 8, 32, 33, 38, 39] rfl)
    try simp only [o1,o2,o3,o4,o5,o6,o7,o8,o9,oa] at hc6
    refine wp_skip ?_
    refine k29 _ _ ?_
    replace H := H.keep [2, 5, 7, 8, 32, 33, 38, 39, 40] rfl
    refine sO H <| sd (does_add rfl rfl (by unfold i64ok; omega)) <| sr 1 rfl <| sE ?_;clear H a;intro a H
    exact k26 (g4 - 1) (k + 1, _, _) a _ (by omega) (by first | exact ⟨by omega, by omega, hI2.up hV.psv (by omega) (by omega) (by omega) (by omega) (by omega) (by omega) (by omega) hpot2⟩ | exact ⟨by omega, by omega, hI2, hpot2, fx_next (P := P) hfx2 (fixAt_of (by omega))⟩) (S.sel [1, 2] rfl rfl) (H.keep [7, 40, 2, 5, 8, 32, 33, 38, 39] rfl)
   refine wp_exit ?_
   refine k23 _ _ ?_
   refine sO H <| sd (does_add rfl rfl (by unfold i64ok; omega)) <| sr 1 rfl <| sE ?_;clear H a;intro a H
   exact k20 (g3 - 1) (f + 1, tk2, m2) a _ (by omega) (⟨by omega, by omega, hI2, hpot2, fx_row (P := P) (by omega) hfx2⟩) (S.sel [0, 1] rfl rfl) (H.keep [7, 33, 2, 5, 32] rfl)
  refine wp_exit ?_
  exact k15 (g2 - 1) (tk1, m1) a _ (by omega) (⟨hI1, by omega, fx_all (by omega) hfx1⟩) (S.sel [0, 1] rfl rfl) (H.keep [7, 2, 5] rfl)
 try simp only [o1,o2,o3,o4,o5,o6,o7,o8,o9,oa] at hc2
 refine wp_exit ?_
 refine k13 _ _ ?_
 refine sS H fun K41 k41=>sr 2 rfl <| sE ?_;clear H a;intro a H
 refine k41 _ ?_;clear k41 K41
 refine wp_ret ?_
 refine ret1 (fn := Try.f70) rfl H rfl ?_
 have hmf : mo = false := by (cases mo <;> simp_all)
 have hok := hI.done (by omega) (hfx hmf)
 have hdo := dst_ok hV.psv (by omega) hok
 replace S := S.recell (i := 0) rfl (cell' := lcl (dst P ps out help to.toNat)) (fun q j hq hj => by unfold lcl; rw [dst_eq hV.psv hok hq])
 exact ⟨_, _, rfl, hdo, (S.sel [0] rfl rfl)⟩

theorem level_joined (P : Nat) (ps : List Psg) (PA : Option Addr) (pc : Nat) (xs : List Int) (XA : Option Addr) (xc : Nat) (out : Int) (help : Bool) (fr to : Int) (w : World) (hps : InS w noF 7 PA ps.length (pcell ps)) (hpn : ps.length ≤ 9223372036854775807) (hxs : InS w noF 1 XA xs.length (icl xs)) (hxn : xs.length ≤ 9223372036854775807) (hV : StV P ps xs) (hou : 0 ≤ out) (hfr : 0 ≤ fr ∧ fr < P) (hto : 0 ≤ to ∧ to < P) :
    Calls Try.prog 45 [.agg [.int .i64 (P : Int), .slice PA ps.length pc, .slice XA xs.length xc, .int .i64 out, .bool help].toArray, .int .i64 fr, .int .i64 to].toArray w (Ret (fun v w' => v = .bool (decide (0 ≤ dst P ps out help to.toNat fr.toNat)) ∧ FarOk P ps out help to.toNat (dst P ps out help to.toNat) ∧ St w noF [] w')) := by
 refine enter Try.func45 rfl Try.ntmps45 rfl (fun a H => ?_)
 have S := St.start w
 refine seq_list fun K1 k1 => ?_
 refine list_box H rfl S rfl rfl ?_;clear H a S;intro b3 _ a hb3 hbw3 S H
 refine ls 1 H <| sr 1 rfl <| sE ?_;clear H a;intro a H
 refine k1 _ _ ?_;clear k1 K1
 replace H := H.keep [1, 2, 3] rfl
 refine seq_list fun K2 k2 => ?_
 refine ls 2 H <| sd ((does_loadBox agg_98 sz_98 rfl S (i := 0) rfl rfl)) <| sr 1 rfl <| sE ?_;clear H a;intro a H
 refine list_call H rfl rfl Try.func70 rfl rfl (level_far P ps PA pc xs XA xc out help to _ (hps.now S) hpn (hxs.now S) hxn hV hou hto) ?_;clear H a
 rintro _ _ a ⟨A5, c5, rfl, hdo, S2⟩ H
 replace S := S.call S2;clear S2
 refine ls 5 H <| sr 1 rfl <| sI sl_23 sz_3 rfl rfl (ownM.adr S (i := 0) rfl (by omega)) (by omega) (by omega) <| slm one_3 rfl (ownM.rd S (i := 0) rfl (by omega) (by omega)) <| sr 2 rfl <| sE ?_;clear H a;intro a H
 refine k2 _ _ ?_;clear k2 K2
 refine wp_ret ?_
 refine ret1 (fn := Try.f45) rfl H rfl ?_
 exact ⟨rfl, hdo, (S.sel [] rfl rfl)⟩

theorem ways_asked (pl : Int) (ps : List Psg) (PA : Option Addr) (pc : Nat) (xs : List Int) (XA : Option Addr) (xc : Nat) (out : Int) (l : List Int) (LA : Option Addr) (lc : Nat) (w : World) (hps : InS w noF 7 PA ps.length (pcell ps)) (hpn : ps.length ≤ 9223372036854775807) (hxs : InS w noF 1 XA xs.length (icl xs)) (hxn : xs.length ≤ 9223372036854775807) (hl : InS w noF 1 LA l.length (icl l)) (hln : l.length ≤ 9223372036854775807) :
    Calls Try.prog 100 [.agg [.int .i64 pl, .slice PA ps.length pc, .slice XA xs.length xc].toArray, .int .i64 out, .slice LA l.length lc].toArray w (Ret (fun v w' => v = .int .i64 (askE pl ps xs out l) ∧ St w noF [] w')) := by
 refine enter Try.func100 rfl Try.ntmps100 rfl (fun a H => ?_)
 have S := St.start w
 refine seq_list fun K1 k1 => ?_
 refine list_box H rfl S rfl rfl ?_;clear H a S;intro b3 _ a hb3 hbw3 S H
 refine ls 1 H <| sr 1 rfl <| sE ?_;clear H a;intro a H
 refine k1 _ _ ?_;clear k1 K1
 refine wp_seq_k fun K2 k2 => ?_
 refine seq_list fun K3 k3 => ?_
 refine ls 1 H <| sd ((does_loadBox agg_25 sz_25 rfl S (i := 0) rfl rfl)) <| sE ?_;clear H a;intro a H
 refine list_call H rfl rfl Try.func40 rfl rfl (ways_Check pl ps PA pc xs XA xc _ (hps.now S) hpn (hxs.now S) hxn) ?_;clear H a
 rintro _ _ a ⟨rfl, S2⟩ H
 replace S := S.call S2;clear S2
 refine ls 1 H <| sr 1 rfl <| sE ?_;clear H a;intro a H
 refine k3 _ _ ?_;clear k3 K3
 refine sS H fun K4 k4=>sr 2 rfl <| sE ?_;clear H a;intro a H
 refine k4 _ ?_;clear k4 K4
 refine condN H rfl (fun hc1 => ?_) (fun hc1 => ?_)
 ·skip
  refine sS H fun K5 k5=>sr 2 rfl <| sE ?_;clear H a;intro a H
  refine k5 _ ?_;clear k5 K5
  refine wp_ret ?_
  refine ret1 (fn := Try.f100) rfl H rfl ?_
  refine ⟨?_, (S.sel [] rfl rfl)⟩; unfold askE; rw [if_pos hc1]
 have hst : stE pl ps xs = 0 := by omega
 refine wp_skip ?_
 refine k2 _ _ ?_
 refine wp_seq_k fun K6 k6 => ?_
 replace H := H.keep [1, 2, 3] rfl
 refine seq_list fun K7 k7 => ?_
 refine ls 1 H <| sr 1 rfl <| sE ?_;clear H a;intro a H
 refine list_call H rfl rfl Try.func42 rfl rfl (ways_within _ _ _ _) ?_;clear H a
 rintro _ _ a ⟨rfl, rfl⟩ H
 refine ls 2 H <| sr 2 rfl <| sE ?_;clear H a;intro a H
 apply list_guard (i := 3) (g := 16) (t := 20) (b := false) 4 H S rfl rfl (by kernel_rfl) (by kernel_rfl) rfl rfl
 case h1 =>
  intro hg4
  refine ls 2 H <| sy hg4 <| sd ((does_loadBox agg_25 sz_25 rfl S (i := 0) rfl rfl)) <| sy hg4 <| sr 1 rfl <| sE ?_;intro a H
  refine list_yes' H rfl rfl (by assumption) ?_
  refine list_call H rfl rfl Try.func44 rfl rfl (ways_place pl ps PA pc xs XA xc l LA lc _ (hl.now S) hln (by have := (st_valid hst).size; omega)) ?_
  rintro _ _ a ⟨rfl, S2⟩ H
  replace S := S.call S2;clear S2
  refine ls 1 H <| sy hg4 <| sr 1 rfl <| sE ?_;intro a H
  exact wpList_nil ⟨H.strip 4 rfl rfl, (S.sel [0] rfl rfl)⟩
 clear H a S;intro a _ H S
 refine ls 1 H <| so rfl rfl rfl <| sE ?_;clear H a;intro a H
 refine k7 _ _ ?_;clear k7 K7
 refine cond_ H rfl (fun hc2 => ?_) (fun hc2 => ?_)
 ·skip
  try simp only [o1,o2,o3,o4,o5,o6,o7,o8,o9,oa] at hc2
  replace H := H.keep [] rfl
  refine sS H fun K8 k8=>sr 1 rfl <| sE ?_;clear H a;intro a H
  refine k8 _ ?_;clear k8 K8
  refine wp_ret ?_
  refine ret1 (fn := Try.f100) rfl H rfl ?_
  refine ⟨?_, (S.sel [] rfl rfl)⟩; unfold askE; rw [if_neg (by omega), if_neg (by simp only [Bool.and_eq_true, decide_eq_true_eq]; rcases hc2 with h | h <;> first | (intro h9; omega) | (rw [h]; simp))]
 try simp only [o1,o2,o3,o4,o5,o6,o7,o8,o9,oa] at hc2
 refine wp_skip ?_
 refine k6 _ _ ?_
 refine sS H fun K9 k9=>sr 1 rfl <| sE ?_;clear H a;intro a H
 refine k9 _ ?_;clear k9 K9
 refine wp_ret ?_
 refine ret1 (fn := Try.f100) rfl H rfl ?_
 refine ⟨?_, (S.sel [] rfl rfl)⟩; unfold askE; rw [if_neg (by omega), if_pos (by simp only [Bool.and_eq_true, decide_eq_true_eq]; exact ⟨by omega, hc2.2⟩)]

theorem ways_Way (pl : Int) (ps : List Psg) (PA : Option Addr) (pc : Nat) (xs : List Int) (XA : Option Addr) (xc : Nat) (out : Int) (help : Bool) (fr to : Int) (w : World) (hps : InS w noF 7 PA ps.length (pcell ps)) (hpn : ps.length ≤ 9223372036854775807) (hxs : InS w noF 1 XA xs.length (icl xs)) (hxn : xs.length ≤ 9223372036854775807) :
    Calls Try.prog 85 [.agg [.int .i64 pl, .slice PA ps.length pc, .slice XA xs.length xc].toArray, .int .i64 out, .bool help, .int .i64 fr, .int .i64 to].toArray w (Ret (fun u w' => (askE pl ps xs out [fr, to] ≠ 0 ∧ u = .tuple #[.int .i64 0, .slice none 0 0, .int .i64 (askE pl ps xs out [fr, to])] ∧ St w noF [] w') ∨ (askE pl ps xs out [fr, to] = 0 ∧ FarOk pl.toNat ps out help to.toNat (dst pl.toNat ps out help to.toNat) ∧ ((dst pl.toNat ps out help to.toNat fr.toNat < 0 ∧ u = .tuple #[.int .i64 0, .slice none 0 0, .int .i64 3] ∧ St w noF [] w') ∨ (0 ≤ dst pl.toNat ps out help to.toNat fr.toNat ∧ ∃ A c, u = .tuple #[.int .i64 (dst pl.toNat ps out help to.toNat fr.toNat), .slice A (wayL pl.toNat ps out help fr.toNat to.toNat).length c, .int .i64 0] ∧ St w noF [ownM 3 1 A (wayL pl.toNat ps out help fr.toNat to.toNat).length c (wcl (wayL pl.toNat ps out help fr.toNat to.toNat))] w'))))) := by
 refine enter Try.func85 rfl Try.ntmps85 rfl (fun a H => ?_)
 have S := St.start w
 refine seq_list fun K1 k1 => ?_
 refine list_box H rfl S rfl rfl ?_;clear H a S;intro b5 _ a hb5 hbw5 S H
 refine ls 3 H <| sr 3 rfl <| sE ?_;clear H a;intro a H
 refine k1 _ _ ?_;clear k1 K1
 refine wp_seq_k fun K2 k2 => ?_
 replace H := H.keep [1, 2, 3, 4, 5, 11] rfl
 refine seq_list fun K3 k3 => ?_
 refine ls 4 H <| sd ((does_loadBox agg_25 sz_25 rfl S (i := 0) rfl rfl)) <| sr 3 rfl <| sE ?_;clear H a;intro a H
 refine list_build' H rfl S sl_23 sz_3 ze_3 rfl rfl rfl rfl rfl rfl rfl rfl rfl ?_;clear H a S;intro A1 _ a hA1 S H
 refine list_call H rfl rfl Try.func100 rfl rfl (ways_asked pl ps PA pc xs XA xc out [fr, to] _ _ _ (hps.now S) hpn (hxs.now S) hxn ((ownM.inS S (i := 0) rfl).congr (fun k j hk hj => two_cells k j hk hj)) (show 2 ≤ 9223372036854775807 by omega)) ?_;clear H a
 rintro _ _ a ⟨rfl, S2⟩ H
 replace S := S.call S2;clear S2
 refine ls 1 H <| sr 1 rfl <| sE ?_;clear H a;intro a H
 refine k3 _ _ ?_;clear k3 K3
 refine sS H fun K4 k4=>sr 2 rfl <| sE ?_;clear H a;intro a H
 refine k4 _ ?_;clear k4 K4
 refine condN H rfl (fun hc1 => ?_) (fun hc1 => ?_)
 ·skip
  replace H := H.keep [12] rfl
  refine sS H fun K5 k5=>sr 4 rfl <| sE ?_;clear H a;intro a H
  refine k5 _ ?_;clear k5 K5
  refine wp_ret ?_
  refine ret3 (fn := Try.f85) rfl H rfl rfl rfl ?_
  exact .inl ⟨hc1, rfl, (S.sel [] rfl rfl)⟩
 obtain ⟨hst, hou, hpl⟩ := askE_ok hc1
 have hV0 := st_valid hst
 obtain ⟨P, rfl⟩ : ∃ P : Nat, pl = P := ⟨pl.toNat, by have := hV0.size; omega⟩
 have hV := hV0
 have hP10 := hV.size
 have hfr : 0 ≤ fr ∧ fr ≤ P - 1 := hpl 0 (show 0 < 2 by omega)
 have hto : 0 ≤ to ∧ to ≤ P - 1 := hpl 1 (show 1 < 2 by omega)
 obtain ⟨fr, rfl⟩ := Int.eq_ofNat_of_zero_le hfr.1
 obtain ⟨to, rfl⟩ := Int.eq_ofNat_of_zero_le hto.1
 refine wp_skip ?_
 refine k2 _ _ ?_
 replace H := H.keep [1, 2, 3, 4, 5, 11] rfl
 refine seq_list fun K6 k6 => ?_
 refine ls 4 H <| sd ((does_loadBox agg_25 sz_25 rfl S (i := 1) rfl rfl)) <| sr 2 rfl <| sd (does_build bt_98 rfl rfl) <| sE ?_;clear H a;intro a H
 refine list_alloc H rfl S ze_98 ?_;clear H a S;intro b13 _ a hb13 hbw13 S H
 refine list_store H S (i := 0) rfl rfl rfl rfl sz_98 rfl rfl ?_
 clear H a S;intro _ a S H
 refine k6 _ _ ?_;clear k6 K6
 replace H := H.keep [3, 4, 5, 11, 13] rfl
 refine seq_list fun K7 k7 => ?_
 refine ls 2 H <| sd ((does_loadBox agg_98 sz_98 rfl S (i := 0) rfl rfl)) <| sr 1 rfl <| sE ?_;clear H a;intro a H
 refine list_call H rfl rfl Try.func70 rfl rfl (level_far P ps PA pc xs XA xc out help (to : Int) _ (hps.now S) hpn (hxs.now S) hxn hV hou.1 (by omega)) ?_;clear H a
 rintro _ _ a ⟨A5, c5, rfl, hdo, S2⟩ H
 replace S := S.call S2;clear S2
 rw [Int.toNat_natCast] at hdo S
 refine ls 1 H <| sr 1 rfl <| sE ?_;clear H a;intro a H
 refine k7 _ _ ?_;clear k7 K7
 refine wp_seq_k fun K8 k8 => ?_
 refine sS H fun K9 k9=>sr 2 rfl <| si sl_23 sz_3 rfl rfl (ownM.adr S (i := 0) rfl (by omega)) (by omega) <| slm one_3 rfl (ownM.rd S (i := 0) rfl (by omega) (by omega)) <| sr 1 rfl <| sE ?_;clear H a;intro a H
 refine k9 _ ?_;clear k9 K9
 refine condL H rfl (fun hc2 => ?_) (fun hc2 => ?_)
 ·skip
  replace H := H.keep [] rfl
  refine sS H fun K10 k10=>sr 3 rfl <| sE ?_;clear H a;intro a H
  refine k10 _ ?_;clear k10 K10
  refine wp_ret ?_
  refine ret3 (fn := Try.f85) rfl H rfl rfl rfl ?_
  simp only [Int.toNat_natCast]
  exact .inr ⟨hc1, hdo, .inl ⟨hc2, trivial, (S.sel [] rfl rfl)⟩⟩
 refine wp_skip ?_
 refine k8 _ _ ?_
 refine wp_seq_k fun K11 k11 => ?_
 refine sS H fun K12 k12=>sr 2 rfl <| sE ?_;clear H a;intro a H
 refine k12 _ ?_;clear k12 K12
 refine wp_block ?_
 replace S := S.newNil 3 1 (wcl [])
 refine loop_st (X := Nat × List Nat × Option Addr × Nat) (R0 := _) [3, 4, 5, 13, 14] H rfl (fun ⟨p, wl, A9, c9⟩ => [(11, .slice A9 wl.length c9), (15, .int .i64 (p : Int))]) (fun ⟨p, wl, A9, c9⟩ => [ownM 3 1 A9 wl.length c9 (wcl wl)]) (fun g ⟨p, wl, A9, c9⟩ => p < P ∧ 0 ≤ dst P ps out help to p ∧ dst P ps out help to p ≤ (g : Int) ∧ wl ++ wayG ps out help (dst P ps out help to) to g p = wayL P ps out help fr to) ((dst P ps out help to fr).toNat) (fr, [], none, 0) ?_ (S.sel [0, 1, 2, 3, 4] rfl rfl) (H.keep [11, 15, 3, 4, 5, 13, 14] rfl) ?_
 · exact ⟨by omega, by omega, by omega, rfl⟩
 clear H S a
 intro g1 x1 a w1 hp S H K13 k13
 obtain ⟨p, wl, A9, c9⟩ := x1
 dsimp only at hp S H
 obtain ⟨hpP, hp0, hpg, hW⟩ := hp
 refine wp_seq_k fun K14 k14 => ?_
 refine sS H fun K15 k15=>sr 3 rfl <| sE ?_;clear H a;intro a H
 refine k15 _ ?_;clear k15 K15
 refine condN H rfl (fun hc3 => ?_) (fun hc3 => ?_)
 ·skip
  refine wp_skip ?_
  refine k14 _ _ ?_
  refine wp_block ?_
  refine sS H fun K16 k16=>sf fo_25_1 rfl <| sl S 4 one_22 rfl rfl rfl <| sL sl_22 rfl <| sr 1 rfl <| sE ?_;clear H a;intro a H
  refine k16 _ ?_;clear k16 K16
  refine wp_block ?_
  refine loop_st (X := Nat) (R0 := _) [3, 4, 5, 13, 14, 45, 46] H rfl (fun k => [(11, .slice A9 wl.length c9), (15, .int .i64 (p : Int)), (47, .int .i64 (k : Int))]) (fun k => []) (fun g k => k ≤ ps.length ∧ g + k = ps.length ∧ ∀ q, q < k → stepB ps out help (dst P ps out help to) p q = false) (ps.length) 0 ?_ (S.sel [0, 1, 2, 3, 4] rfl rfl) (H.keep [11, 15, 47, 3, 4, 5, 13, 14, 45, 46] rfl) ?_
  · exact ⟨by omega, by omega, fun q hq => absurd hq (Nat.not_lt_zero q)⟩
  clear H S a
  intro g2 x2 a w2 hp S H K17 k17
  obtain ⟨k, rfl⟩ : ∃ y, y = x2 := ⟨_, rfl⟩
  refine sS H fun K18 k18=>sr 1 rfl <| sE ?_;clear H a;intro a H
  refine k18 _ ?_;clear k18 K18
  refine wp_seq_k fun K19 k19 => ?_
  refine condL H rfl (fun hc4 => ?_) (fun hc4 => ?_)
  ·skip
   refine wp_skip ?_
   refine k19 _ _ ?_
   refine wp_seq_k fun K20 k20 => ?_
   refine wp_block ?_
   refine seq_list fun K21 k21 => ?_
   refine ls 3 H <| sr 1 rfl <| si sl_22 sz_128 rfl rfl (hps.adr (by omega)) (by omega) <| sd ((does_loadIn agg_128 sz_128 rfl S hps (by omega) (by omega))) <| sE ?_;clear H a;intro a H
   refine list_alloc H rfl S ze_128 ?_;clear H a S;intro b17 _ a hb17 hbw17 S H
   refine ls 1 H <| sr 1 rfl <| sE ?_;clear H a;intro a H
   refine list_store H S (i := 0) rfl rfl rfl rfl sz_128 rfl rfl ?_
   clear H a S;intro _ a S H
   refine k21 _ _ ?_;clear k21 K21
   replace H := H.keep [3, 4, 5, 11, 13, 14, 15, 16, 17, 45, 46, 47] rfl
   refine seq_list fun K22 k22 => ?_
   refine ls 3 H <| sd ((does_loadBox agg_98 sz_98 rfl S (i := 3) rfl rfl)) <| sd ((does_loadBox agg_128 sz_128 rfl S (i := 0) rfl rfl)) <| sr 1 rfl <| sE ?_;clear H a;intro a H
   refine list_call H rfl rfl Try.func94 rfl rfl (level_other P ps PA pc xs XA xc out help (ps.getD k Psg.zero) (p : Int) _ (hV.mch k (by omega)) hou.1) ?_;clear H a
   rintro _ _ a ⟨rfl, S2⟩ H
   replace S := S.call S2;clear S2
   have hoi : 0 ≤ oth out help (ps.getD k Psg.zero) (p : Int) → oth out help (ps.getD k Psg.zero) (p : Int) < P := fun h => (oth_in hV.psv (show k < ps.length by omega) h).2.1
   have htb := (hV.psv k (by omega)).2.2
   refine ls 1 H <| sr 1 rfl <| sE ?_;clear H a;intro a H
   refine k22 _ _ ?_;clear k22 K22
   replace H := H.keep [3, 4, 5, 11, 13, 14, 15, 16, 17, 18, 45, 46, 47] rfl
   replace S := S.drew
   refine sD H fun K23 k23=>sr 3 rfl <| sg 5 2 58 63 true rfl rfl (fun hg3 => by
       have hq3 := hg3;try simp only [o1,o2,o3,o4,o5,o6,o7,o8,o9,oa] at hq3
       exact sy hg3 <| sr 1 rfl <| sy hg3 <| sr 1 rfl <| sy hg3 <| sI sl_23 sz_3 rfl rfl (ownM.adr S (i := 2) rfl (by omega)) (by omega) (by omega) <| sy hg3 <| slm one_3 rfl (ownM.rd S (i := 2) rfl (by omega) (by omega)) <| sy hg3 <| sr 1 rfl <| sz 5 rfl rfl rfl) <| sa rfl rfl rfl <| sr 1 rfl <| sg 12 9 65 77 true rfl rfl (fun hg10 => by
       have hq10 := hg10;try simp only [o1,o2,o3,o4,o5,o6,o7,o8,o9,oa] at hq10
       have hsm := hdo.sml (oth out help (ps.getD k Psg.zero) p).toNat (by omega)
       exact sy hg10 <| sr 1 rfl <| sy hg10 <| sr 1 rfl <| sy hg10 <| sI sl_23 sz_3 rfl rfl (ownM.adr S (i := 2) rfl (by omega)) (by omega) (by omega) <| sy hg10 <| slm one_3 rfl (ownM.rd S (i := 2) rfl (by omega) (by omega)) <| sy hg10 <| sf fo_128_3 rfl <| sy hg10 <| sl S 0 one_3 rfl rfl rfl <| sy hg10 <| sd (does_add rfl rfl (by unfold i64ok; omega)) <| sy hg10 <| sr 1 rfl <| sy hg10 <| sr 1 rfl <| sy hg10 <| si sl_23 sz_3 rfl rfl (ownM.adr S (i := 2) rfl (by omega)) (by omega) <| sy hg10 <| slm one_3 rfl (ownM.rd S (i := 2) rfl (by omega) (by omega)) <| sy hg10 <| sr 1 rfl <| sz 12 rfl rfl rfl) <| sa rfl rfl rfl <| sE ?_;clear H a;intro a H
   refine k23 _ ?_;clear k23 K23
   refine cond_ H rfl (fun hc5 => ?_) (fun hc5 => ?_)
   ·skip
    try simp only [o1,o2,o3,o4,o5,o6,o7,o8,o9,oa] at hc5
    have hsb := stepB_t hc5
    obtain ⟨b, hb, hbP, hb0, hbd, hbt⟩ := step_of hV.psv (by omega) hsb
    have hsk := step_at hp.2.2 hsb (by omega)
    have hwl : wl.length ≤ 200 := by have := wayG_len (ps := ps) (out := out) (help := help) (d := dst P ps out help to) (to := to) (dst P ps out help to fr).toNat fr; have h8 := hdo.sml fr (by omega); have h9 := congrArg List.length hW; rw [List.length_append] at h9; unfold wayL at h9; omega
    rw [hb] at H
    replace H := H.keep [3, 4, 5, 11, 13, 14, 16, 18] rfl
    refine seq_list fun K24 k24 => ?_
    refine ls 2 H <| sr 2 rfl <| sE ?_;clear H a;intro a H
    refine list_build' H rfl S sl_23 sz_3 ze_3 rfl rfl rfl rfl rfl rfl rfl rfl rfl ?_;clear H a S;intro A2 _ a hA2 S H
    refine list_append H rfl S sl_23 sz_3 ze_3 by_3 rfl rfl (i := 2) rfl rfl rfl (ownM.inS S (i := 0) rfl) (w8one_vs (w8one rfl)) (by omega) (by omega) ?_;clear H a S;intro A3 c3 _ a S H
    replace S := S.recell (i := 2) rfl (cell' := wcl (wl ++ [k])) (fun k j hk hj => wcl_snoc rfl k j hk hj)
    rw [show wl.length + 1 = (wl ++ [k]).length by simp] at H S
    refine ls 1 H <| sr 1 rfl <| sE ?_;clear H a;intro a H
    refine k24 _ _ ?_;clear k24 K24
    refine sS H fun K25 k25=>sr 2 rfl <| sE ?_;clear H a;intro a H
    refine k25 _ ?_;clear k25 K25
    refine wp_exit ?_
    exact k13 (g1 - 1) (b, wl ++ [k], _, _) a _ (by omega) (⟨hbP, hb0, by omega, way_snoc hW (by omega) (by omega) hsk hb⟩) (S.sel [2, 3, 4, 5, 6] rfl rfl) (H.keep [11, 15, 3, 4, 5, 13, 14] rfl)
   try simp only [o1,o2,o3,o4,o5,o6,o7,o8,o9,oa] at hc5
   refine wp_skip ?_
   refine k20 _ _ ?_
   refine sO H <| sd (does_add rfl rfl (by unfold i64ok; omega)) <| sr 1 rfl <| sE ?_;clear H a;intro a H
   exact k17 (g2 - 1) (k + 1) a _ (by omega) (⟨by omega, by omega, no_step hp.2.2 (stepB_f hc5)⟩) (S.sel [1, 2, 3, 4, 5] rfl rfl) (H.keep [11, 15, 47, 3, 4, 5, 13, 14, 45, 46] rfl)
  exfalso
  obtain ⟨h91, h92, h93⟩ := hdo.stp hV.psv hpP hp0 (by omega)
  rw [hp.2.2 _ (by omega)] at h92
  cases h92
 refine wp_exit ?_
 refine k11 _ _ ?_
 replace H := H.keep [3, 11, 14] rfl
 refine sS H fun K27 k27=>sr 2 rfl <| si sl_23 sz_3 rfl rfl (ownM.adr S (i := 1) rfl (by omega)) (by omega) <| slm one_3 rfl (ownM.rd S (i := 1) rfl (by omega) (by omega)) <| sr 4 rfl <| sE ?_;clear H a;intro a H
 refine k27 _ ?_;clear k27 K27
 refine wp_ret ?_
 refine ret3 (fn := Try.f85) rfl H rfl rfl rfl ?_
 obtain rfl : p = to := by omega
 have hw9 := way_end hW
 simp only [Int.toNat_natCast]
 rw [← hw9]
 exact .inr ⟨hc1, hdo, .inr ⟨hc2, _, _, rfl, (S.sel [0] rfl rfl)⟩⟩

end Go.Proofs.Ytopmadlgolnmfaa
