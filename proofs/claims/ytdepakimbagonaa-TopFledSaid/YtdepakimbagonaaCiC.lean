/- CiC. Printed by gen.py. -/
import Derived.Test.YtdepakimbagonaaCiB
namespace Go.Proofs.Ytdepakimbagonaa
open Go.RowKit
set_option linter.unusedVariables false
set_option linter.unusedSimpArgs false
set_option maxRecDepth 100000
set_option maxHeartbeats 4000000


theorem lowA_next {l : List Int} {lo : Int} {k : Nat} : lowA l lo (k + 1) = l.getD k 0 + 1 := by unfold lowA; rw [if_neg (by omega)]; rfl
theorem pwh {hz : Int} (h : 0 ≤ hz ∧ hz ≤ 12) : 0 ≤ (1 : Int) * 2 ^ hz.toNat ∧ (1 : Int) * 2 ^ hz.toNat ≤ 4096 := by
  rw [Int.one_mul]
  have h8 : 2 ^ hz.toNat ≤ 4096 := Nat.le_trans (Nat.pow_le_pow_right (by omega) (show hz.toNat ≤ 12 by omega)) (by decide)
  have e : (2 : Int) ^ hz.toNat = ((2 ^ hz.toNat : Nat) : Int) := (Int.natCast_pow 2 hz.toNat).symm
  rw [e]
  exact ⟨Int.natCast_nonneg _, Int.ofNat_le.2 h8⟩
def bcl (l : List Bool) : Nat → Nat → Value := fun k _ => .bool (l.getD k false)
theorem ball_take {l : List Bool} {k : Nat} (hk : k < l.length) (h : (l.take k).all (fun b => b) = true) (h2 : l.getD k false = true) : (l.take (k + 1)).all (fun b => b) = true := by
  rw [List.getD_eq_getElem?_getD, List.getElem?_eq_getElem hk] at h2
  rw [List.take_succ_eq_append_getElem hk, List.all_append, h]
  simpa using h2
theorem ball_at {l : List Bool} {k : Nat} (hk : k < l.length) (h : l.getD k false = false) : l.all (fun b => b) = false := by
  rw [List.getD_eq_getElem?_getD, List.getElem?_eq_getElem hk] at h
  cases hb : l.all (fun b => b) with
  | false => rfl
  | true => have := List.all_eq_true.1 hb _ (List.getElem_mem hk); simp at h; rw [h] at this; cases this


theorem cir_isSet (n many : Int) (w : World) (hm : 0 ≤ many ∧ many ≤ 12) :
    Calls Try.prog 83 [.int .i64 n, .int .i64 many].toArray w (Ret (fun u w' => u = .bool (setB n many) ∧ St w noF [] w')) := by
 have hpw := pwh hm
 refine enter Try.func83 rfl Try.ntmps83 rfl (fun a H => ?_)
 have S := St.start w
 refine sS H fun K1 k1=>sr 1 rfl <| sE ?_;clear H a;intro a H
 refine k1 _ ?_;clear k1 K1
 replace H := H.keep [0, 1] rfl
 refine sS H fun K2 k2=>sr 3 rfl <| sg 4 2 7 11 true rfl rfl (fun hg3 => sy hg3 <| sr 1 rfl <| sy hg3 <| sr 1 rfl <| sy hg3 <| sd (does_shl rfl rfl (by omega) (by omega) (by unfold i64ok; omega)) <| sy hg3 <| sr 1 rfl <| sz 4 rfl rfl rfl) <| sa rfl rfl rfl <| sr 1 rfl <| sE ?_;clear H a;intro a H
 refine k2 _ ?_;clear k2 K2
 refine wp_ret ?_
 refine ret1 (fn := Try.f83) rfl H rfl ?_
 exact ⟨rfl, (S.sel [] rfl rfl)⟩

theorem cir_Check2 (n : Int) (w : World) :
    Calls Try.prog 85 [.int .i64 n].toArray w (Ret (fun u w' => u = .bool (!decide (n = 1)) ∧ St w noF [] w')) := by
 refine enter Try.func85 rfl Try.ntmps85 rfl (fun a H => ?_)
 have S := St.start w
 refine sS H fun K1 k1=>sr 1 rfl <| sE ?_;clear H a;intro a H
 refine k1 _ ?_;clear k1 K1
 refine sS H fun K2 k2=>sr 3 rfl <| sE ?_;clear H a;intro a H
 refine k2 _ ?_;clear k2 K2
 refine wp_ret ?_
 refine ret1 (fn := Try.f85) rfl H rfl ?_
 exact ⟨rfl, (S.sel [] rfl rfl)⟩

theorem cir_ascending (l : List Int) (A : Option Addr) (cp : Nat) (lo hi : Int) (w : World) (hl : InS w noF 1 A l.length (icl l)) (hn : l.length ≤ 9223372036854775807) (hlo : 0 ≤ lo ∧ lo ≤ 1000) (hhi : 0 ≤ hi ∧ hi ≤ 1000) :
    Calls Try.prog 84 [.slice A l.length cp, .int .i64 lo, .int .i64 hi].toArray w (Ret (fun u w' => u = .bool (ascB l lo hi) ∧ St w noF [] w')) := by
 refine enter Try.func84 rfl Try.ntmps84 rfl (fun a H => ?_)
 have S := St.start w
 refine sS H fun K1 k1=>sr 1 rfl <| sE ?_;clear H a;intro a H
 refine k1 _ ?_;clear k1 K1
 refine wp_seq_k fun K2 k2 => ?_
 refine sS H fun K3 k3=>sr 1 rfl <| sL sl_25 rfl <| sr 1 rfl <| sE ?_;clear H a;intro a H
 refine k3 _ ?_;clear k3 K3
 refine wp_block ?_
 refine loop_st (X := Nat × Int) (R0 := _) [2, 9, 10] H rfl (fun ⟨k, lw⟩ => [(1, .int .i64 lw), (11, .int .i64 (k : Int))]) (fun ⟨k, lw⟩ => []) (fun g ⟨k, lw⟩ => k ≤ l.length ∧ g + k = l.length ∧ (0 ≤ lw ∧ lw ≤ 1000) ∧ lw = lowA l lo k ∧ ∀ q, q < k → ascP l lo hi q = true) (l.length) (0, lo) ?_ (S.sel [] rfl rfl) (H.keep [1, 11, 2, 9, 10] rfl) ?_
 · exact ⟨by omega, by omega, by omega, rfl, fun q hq => absurd hq (Nat.not_lt_zero q)⟩
 clear H S a
 intro g1 x1 a w1 hp S H K4 k4
 obtain ⟨k, lw⟩ := x1
 dsimp only at hp S H
 refine sS H fun K5 k5=>sr 1 rfl <| sE ?_;clear H a;intro a H
 refine k5 _ ?_;clear k5 K5
 refine wp_seq_k fun K6 k6 => ?_
 refine condL H rfl (fun hc1 => ?_) (fun hc1 => ?_)
 ·skip
  refine wp_skip ?_
  refine k6 _ _ ?_
  refine wp_seq_k fun K7 k7 => ?_
  refine wp_block ?_
  refine sS H fun K8 k8=>si sl_25 sz_3 rfl rfl (hl.adr (by omega)) (by omega) <| slm one_3 rfl (hl.rd S (by omega) (by omega)) <| sr 1 rfl <| sE ?_;clear H a;intro a H
  refine k8 _ ?_;clear k8 K8
  refine wp_seq_k fun K9 k9 => ?_
  replace H := H.keep [1, 2, 8, 9, 10, 11] rfl
  refine sS H fun K10 k10=>sr 4 rfl <| sg 3 3 18 21 false rfl rfl (fun hg4 => sy hg4 <| sr 1 rfl <| sy hg4 <| sr 1 rfl <| sy hg4 <| sr 1 rfl <| sz 3 rfl rfl rfl) <| so rfl rfl rfl <| sE ?_;clear H a;intro a H
  refine k10 _ ?_;clear k10 K10
  refine cond_ H rfl (fun hc2 => ?_) (fun hc2 => ?_)
  ·skip
   try simp only [o1,o2,o3,o4,o5,o6,o7,o8,o9,oa] at hc2
   have hcx := hc2
   refine sS H fun K11 k11=>sr 1 rfl <| sE ?_;clear H a;intro a H
   refine k11 _ ?_;clear k11 K11
   refine wp_ret ?_
   refine ret1 (fn := Try.f84) rfl H rfl ?_
   rw [asc_bad (k := k) (by omega) (by unfold ascP; rw [← hp.2.2.2.1]; exact decide_eq_false (by simp at hcx; omega))]; exact ⟨rfl, (S.sel [] rfl rfl)⟩
  try simp only [o1,o2,o3,o4,o5,o6,o7,o8,o9,oa] at hc2
  have hcx := hc2
  refine wp_skip ?_
  refine k9 _ _ ?_
  simp at hcx
  replace H := H.keep [2, 8, 9, 10, 11] rfl
  refine sO H <| sr 1 rfl <| sd (does_add rfl rfl (by unfold i64ok; omega)) <| sr 1 rfl <| sE ?_;clear H a;intro a H
  refine k7 _ _ ?_
  refine sO H <| sd (does_add rfl rfl (by unfold i64ok; omega)) <| sr 1 rfl <| sE ?_;clear H a;intro a H
  exact k4 (g1 - 1) (k + 1, _) a _ (by omega) (⟨by omega, by omega, by omega, lowA_next.symm, fun q hq => if h9 : q < k then hp.2.2.2.2 q h9 else by
        obtain rfl : q = k := by omega
        unfold ascP; rw [← hp.2.2.2.1]; exact decide_eq_true (by omega)⟩) (S.sel [] rfl rfl) (H.keep [1, 11, 2, 9, 10] rfl)
 refine wp_exit ?_
 refine k2 _ _ ?_
 refine sS H fun K14 k14=>sr 1 rfl <| sE ?_;clear H a;intro a H
 refine k14 _ ?_;clear k14 K14
 refine wp_ret ?_
 refine ret1 (fn := Try.f84) rfl H rfl ?_
 rw [asc_all (fun q hq => hp.2.2.2.2 q (by omega))]; exact ⟨rfl, (S.sel [] rfl rfl)⟩

theorem cir_IndexB (l : List Bool) (A : Option Addr) (cp : Nat) (w : World) (hl : InS w noF 1 A l.length (bcl l)) (hn : l.length ≤ 9223372036854775807) :
    Calls Try.prog 91 [.slice A l.length cp, .bool false].toArray w (Ret (fun u w' => ∃ n : Int, u = .int .i64 n ∧ decide (0 ≤ n) = !(l.all fun b => b) ∧ St w noF [] w')) := by
 refine enter Try.func91 rfl Try.ntmps91 rfl (fun a H => ?_)
 have S := St.start w
 refine sS H fun K1 k1=>sr 1 rfl <| sE ?_;clear H a;intro a H
 refine k1 _ ?_;clear k1 K1
 refine wp_seq_k fun K2 k2 => ?_
 refine sS H fun K3 k3=>sr 1 rfl <| sL sl_163 rfl <| sr 1 rfl <| sE ?_;clear H a;intro a H
 refine k3 _ ?_;clear k3 K3
 refine wp_block ?_
 refine loop_st (X := Nat) (R0 := _) [0, 1, 7] H rfl (fun k => [(8, .int .i64 (k : Int))]) (fun k => []) (fun g k => k ≤ l.length ∧ g + k = l.length ∧ (l.take k).all (fun b => b) = true) (l.length) 0 ?_ (S.sel [] rfl rfl) (H.keep [8, 0, 1, 7] rfl) ?_
 · exact ⟨by omega, by omega, rfl⟩
 clear H S a
 intro g1 x1 a w1 hp S H K4 k4
 obtain ⟨k, rfl⟩ : ∃ y, y = x1 := ⟨_, rfl⟩
 refine sS H fun K5 k5=>sr 1 rfl <| sE ?_;clear H a;intro a H
 refine k5 _ ?_;clear k5 K5
 refine wp_seq_k fun K6 k6 => ?_
 refine condL H rfl (fun hc1 => ?_) (fun hc1 => ?_)
 ·skip
  refine wp_skip ?_
  refine k6 _ _ ?_
  refine wp_seq_k fun K7 k7 => ?_
  refine wp_block ?_
  refine sS H fun K8 k8=>sr 2 rfl <| sE ?_;clear H a;intro a H
  refine k8 _ ?_;clear k8 K8
  refine sS H fun K9 k9=>sr 3 rfl <| si sl_163 sz_4 rfl rfl (hl.adr (by omega)) (by omega) <| slm one_4 rfl (hl.rd S (by omega) (by omega)) <| sd (does_eqlb Try.underlying4 rfl rfl) <| sE ?_;clear H a;intro a H
  refine k9 _ ?_;clear k9 K9
  refine cond_ H rfl (fun hc2 => ?_) (fun hc2 => ?_)
  ·skip
   try simp only [o1,o2,o3,o4,o5,o6,o7,o8,o9,oa] at hc2
   replace H := H.keep [5] rfl
   refine sS H fun K10 k10=>sr 2 rfl <| sE ?_;clear H a;intro a H
   refine k10 _ ?_;clear k10 K10
   refine wp_ret ?_
   refine ret1 (fn := Try.f91) rfl H rfl ?_
   exact ⟨_, rfl, by rw [ball_at (k := k) (by omega) (by simpa using hc2)]; exact decide_eq_true (by omega), (S.sel [] rfl rfl)⟩
  try simp only [o1,o2,o3,o4,o5,o6,o7,o8,o9,oa] at hc2
  refine wp_skip ?_
  refine k7 _ _ ?_
  refine sO H <| sd (does_add rfl rfl (by unfold i64ok; omega)) <| sr 1 rfl <| sE ?_;clear H a;intro a H
  exact k4 (g1 - 1) (k + 1) a _ (by omega) (⟨by omega, by omega, ball_take (by omega) hp.2.2 (by simpa using hc2)⟩) (S.sel [] rfl rfl) (H.keep [8, 0, 1, 7] rfl)
 refine wp_exit ?_
 refine k2 _ _ ?_
 refine sS H fun K12 k12=>sr 1 rfl <| sE ?_;clear H a;intro a H
 refine k12 _ ?_;clear k12 K12
 refine wp_ret ?_
 refine ret1 (fn := Try.f91) rfl H rfl ?_
 exact ⟨_, rfl, by rw [← List.take_of_length_le (l := l) (i := k) (by omega), hp.2.2]; rfl, (S.sel [] rfl rfl)⟩

theorem cir_ContainsB (l : List Bool) (A : Option Addr) (cp : Nat) (w : World) (hl : InS w noF 1 A l.length (bcl l)) (hn : l.length ≤ 9223372036854775807) :
    Calls Try.prog 80 [.slice A l.length cp, .bool false].toArray w (Ret (fun u w' => u = .bool (!(l.all fun b => b)) ∧ St w noF [] w')) := by
 refine enter Try.func80 rfl Try.ntmps80 rfl (fun a H => ?_)
 have S := St.start w
 refine sS H fun K1 k1=>sr 1 rfl <| sE ?_;clear H a;intro a H
 refine k1 _ ?_;clear k1 K1
 refine seq_list fun K2 k2 => ?_
 refine ls 2 H <| sr 2 rfl <| sE ?_;clear H a;intro a H
 refine list_call H rfl rfl Try.func91 rfl rfl (cir_IndexB l A cp _ (hl.now S) hn) ?_;clear H a
 rintro _ _ a ⟨n, rfl, hn2, S2⟩ H
 replace S := S.call S2;clear S2
 refine ls 2 H <| sr 2 rfl <| sE ?_;clear H a;intro a H
 refine k2 _ _ ?_;clear k2 K2
 refine wp_ret ?_
 refine ret1 (fn := Try.f80) rfl H rfl ?_
 exact ⟨congrArg Value.bool hn2, (S.sel [] rfl rfl)⟩

end Go.Proofs.Ytdepakimbagonaa
