/- ChPo. Printed by gen.py. -/
import Derived.Test.YtdepakimbagonaaChH
import Derived.Test.YtdepakimbagonaaTpA
import Derived.Test.YtdepakimbagonaaPos
namespace Go.Proofs.Ytdepakimbagonaa
open Go.RowKit
set_option linter.unusedVariables false
set_option linter.unusedSimpArgs false
set_option maxRecDepth 100000
set_option maxHeartbeats 4000000


theorem law_sum (B : Option Addr) (n cs : Nat) (f : Nat → Int) (ia ib : Nat) (w : World) (hB : InS w noF 1 B n (fun k _ => .int .i64 (f k))) (hab : ia ≤ ib) (hb : ib ≤ n) (hn : n ≤ 1000) (hf : ∀ k, k < n → 0 ≤ f k ∧ f k ≤ 100000) :
    Calls Try.prog 23 [.slice B n cs, .int .i64 (ia : Int), .int .i64 (ib : Int)].toArray w (Ret (fun v w' => v = .int .i64 (sumR f ia (ib - ia)) ∧ St w noF [] w')) := by
 refine enter Try.func23 rfl Try.ntmps23 rfl (fun a H => ?_)
 have S := St.start w
 refine sS H fun K1 k1=>sr 1 rfl <| sE ?_;clear H a;intro a H
 refine k1 _ ?_;clear k1 K1
 refine sS H fun K2 k2=>sr 1 rfl <| sE ?_;clear H a;intro a H
 refine k2 _ ?_;clear k2 K2
 refine wp_seq_k fun K3 k3 => ?_
 refine sS H fun K4 k4=>sr 2 rfl <| sE ?_;clear H a;intro a H
 refine k4 _ ?_;clear k4 K4
 refine wp_block ?_
 refine loop_st (X := Nat) (R0 := _) [0, 2] H rfl (fun d => [(7, .int .i64 (sumR f ia d)), (8, .int .i64 ((ia + d : Nat) : Int))]) (fun d => []) (fun g d => d ≤ ib - ia ∧ g + d = ib - ia) (ib - ia) 0 ?_ (S.sel [] rfl rfl) (H.keep [7, 8, 0, 2] rfl) ?_
 · exact ⟨by omega, by omega⟩
 clear H S a
 intro g1 x1 a w1 hp S H K5 k5
 obtain ⟨d, rfl⟩ : ∃ y, y = x1 := ⟨_, rfl⟩
 refine wp_seq_k fun K6 k6 => ?_
 refine sS H fun K7 k7=>sr 3 rfl <| sE ?_;clear H a;intro a H
 refine k7 _ ?_;clear k7 K7
 refine condL H rfl (fun hc1 => ?_) (fun hc1 => ?_)
 ·skip
  refine wp_skip ?_
  refine k6 _ _ ?_
  refine wp_seq_k fun K8 k8 => ?_
  refine wp_block ?_
  have hsb := sumR_bd hf ia d (by omega); have hfk := hf (ia + d) (by omega)
  replace H := H.keep [0, 2, 7, 8] rfl
  refine sO H <| sr 3 rfl <| sK ?_;clear H a;intro a H
  refine still_does H rfl (by first | (exact does_indexN sl_25 sz_3 rfl rfl (hB.adr (by omega)) (by omega); trace "ALT law_sum 5.3.3 0") | (exact does_index sl_25 sz_3 rfl rfl (hB.adr (by omega)) (by omega) (by omega); trace "ALT law_sum 5.3.3 1")) ?_;clear H a;intro a H
  refine sF H <| slm one_3 rfl (hB.rd S (by omega) (by omega)) <| sd (does_add rfl rfl (by unfold i64ok; omega)) <| sr 1 rfl <| sE ?_;clear H a;intro a H
  refine k8 _ _ ?_
  replace H := H.keep [0, 2, 7, 8] rfl
  refine sO H <| sr 1 rfl <| sd (does_add rfl rfl (by unfold i64ok; omega)) <| sr 1 rfl <| sE ?_;clear H a;intro a H
  exact k5 (g1 - 1) (d + 1) a _ (by omega) (by omega) (S.sel [] rfl rfl) (H.keep [7, 8, 0, 2] rfl)
 refine wp_exit ?_
 refine k3 _ _ ?_
 refine sS H fun K11 k11=>sr 2 rfl <| sE ?_;clear H a;intro a H
 refine k11 _ ?_;clear k11 K11
 refine wp_ret ?_
 refine ret1 (fn := Try.f23) rfl H rfl ?_
 have hd9 : d = ib - ia := by omega
 subst hd9
 exact ⟨rfl, (S.sel [] rfl rfl)⟩

theorem law_sumI (B : Option Addr) (n cs : Nat) (f : Nat → Int) (a b : Int) (w : World) (hB : InS w noF 1 B n (fun k _ => .int .i64 (f k))) (h0 : 0 ≤ a) (hab : a ≤ b) (hb : b ≤ n) (hn : n ≤ 1000) (hf : ∀ k, k < n → 0 ≤ f k ∧ f k ≤ 100000) :
    Calls Try.prog 23 [.slice B n cs, .int .i64 a, .int .i64 b].toArray w (Ret fun v w' => v = .int .i64 (sumR f a.toNat (b.toNat - a.toNat)) ∧ St w noF [] w') := by
  have h := law_sum B n cs f a.toNat b.toNat w hB (by omega) (by omega) hn hf
  rw [Int.toNat_of_nonneg h0, Int.toNat_of_nonneg (show 0 ≤ b by omega)] at h
  exact h


theorem law_Possible (links pitch limit : Int) (l : List Gauge) (A : Option Addr) (cp : Nat) (B : Option Addr) (n cs : Nat) (f : Nat → Int) (w : World) (hl : InS w noF 4 A l.length (gcell l)) (hn : l.length ≤ 9223372036854775807) (hB : InS w noF 1 B n (fun k _ => .int .i64 (f k))) (hBn : n ≤ 9223372036854775807) (h0 : checkE (⟨links, pitch, limit⟩ : Chain) l = 0) :
    Calls Try.prog 7 [.agg [.int .i64 links, .int .i64 pitch, .int .i64 limit].toArray, .slice A l.length cp, .slice B n cs].toArray w (Ret (fun v w' => v = .bool (posB (⟨links, pitch, limit⟩ : Chain) l n f) ∧ St w noF [] w')) := by
 have hck := checkE_ok h0; have hlen := hck.2.1; have hC := hck.1; unfold chainOk at hC; simp only [decide_eq_true_eq] at hC
 refine enter Try.func7 rfl Try.ntmps7 rfl (fun a H => ?_)
 have S := St.start w
 refine seq_list fun K1 k1 => ?_
 refine list_box H rfl S rfl rfl ?_;clear H a S;intro b3 _ a hb3 hbw3 S H
 refine ls 1 H <| sr 1 rfl <| sE ?_;clear H a;intro a H
 refine k1 _ _ ?_;clear k1 K1
 refine wp_seq_k fun K2 k2 => ?_
 refine sS H fun K3 k3=>sr 1 rfl <| sL sl_25 rfl <| sK ?_;clear H a;intro a H
 refine still_does H rfl ((by first | (exact does_field_pt fo_23_0 rfl; trace "ALT law_Possible 1.2.1 0") | (exact does_field fo_23_0 rfl; trace "ALT law_Possible 1.2.1 1"))) ?_;clear H a;intro a H
 refine still_does H rfl (does_load one_3 rfl (by first | (exact hB.rd S (by omega) (by omega); trace "ALT law_Possible 1.3.1 0") | (exact hl.rd S (by omega) (by omega); trace "ALT law_Possible 1.3.1 1") | (exact boxM.rd S (i := 0) rfl rfl; trace "ALT law_Possible 1.3.1 2"))) ?_;clear H a;intro a H
 refine sF H <| sr 1 rfl <| sE ?_;clear H a;intro a H
 refine k3 _ ?_;clear k3 K3
 refine condN H rfl (fun hc1 => ?_) (fun hc1 => ?_)
 ·skip
  refine sS H fun K4 k4=>sr 1 rfl <| sE ?_;clear H a;intro a H
  refine k4 _ ?_;clear k4 K4
  refine wp_ret ?_
  refine ret1 (fn := Try.f7) rfl H rfl ?_
  refine ⟨congrArg Value.bool ?_, (S.sel [] rfl rfl)⟩; unfold posB; rw [decide_eq_false (by omega)]; rfl
 refine wp_skip ?_
 refine k2 _ _ ?_
 refine wp_seq_k fun K5 k5 => ?_
 refine sS H fun K6 k6=>sr 1 rfl <| sE ?_;clear H a;intro a H
 refine k6 _ ?_;clear k6 K6
 refine wp_block ?_
 refine loop_st (X := Nat) (R0 := _) [1, 2, 3] H rfl (fun k => [(7, .int .i64 (k : Int))]) (fun k => []) (fun g k => k ≤ n ∧ g + k = n ∧ ∀ q, q < k → pitch ≤ f q ∧ f q ≤ limit) (n) 0 ?_ (S.sel [0] rfl rfl) (H.keep [7, 1, 2, 3] rfl) ?_
 · exact ⟨by omega, by omega, fun q hq => absurd hq (Nat.not_lt_zero _)⟩
 clear H S a
 intro g1 x1 a w1 hp S H K7 k7
 obtain ⟨k, rfl⟩ : ∃ y, y = x1 := ⟨_, rfl⟩
 refine wp_seq_k fun K8 k8 => ?_
 refine sS H fun K9 k9=>sr 2 rfl <| sL sl_25 rfl <| sr 1 rfl <| sE ?_;clear H a;intro a H
 refine k9 _ ?_;clear k9 K9
 refine condL H rfl (fun hc2 => ?_) (fun hc2 => ?_)
 ·skip
  refine wp_skip ?_
  refine k8 _ _ ?_
  refine wp_seq_k fun K10 k10 => ?_
  refine wp_block ?_
  replace H := H.keep [1, 2, 3, 7] rfl
  replace S := S.drew
  refine sD H fun K11 k11=>sr 2 rfl <| sK ?_;clear H a;intro a H
  refine still_does H rfl (by first | (exact does_indexN sl_25 sz_3 rfl rfl (by first | (exact hB.adr (by omega); trace "ALT law_Possible 6.2.1 0") | (exact hl.adr (by omega); trace "ALT law_Possible 6.2.1 1")) (by omega); trace "ALT law_Possible 6.2.3 0") | (exact does_index sl_25 sz_3 rfl rfl (by first | (exact hB.adr (by omega); trace "ALT law_Possible 6.2.1 0") | (exact hl.adr (by omega); trace "ALT law_Possible 6.2.1 1")) (by omega) (by omega); trace "ALT law_Possible 6.2.3 1")) ?_;clear H a;intro a H
  refine still_does H rfl (does_load one_3 rfl (by first | (exact hB.rd S (by omega) (by omega); trace "ALT law_Possible 6.3.1 0") | (exact hl.rd S (by omega) (by omega); trace "ALT law_Possible 6.3.1 1") | (exact boxM.rd S (i := 0) rfl rfl; trace "ALT law_Possible 6.3.1 2"))) ?_;clear H a;intro a H
  refine still_does H rfl ((by first | (exact does_field_pt fo_23_1 rfl; trace "ALT law_Possible 6.4.1 0") | (exact does_field fo_23_1 rfl; trace "ALT law_Possible 6.4.1 1"))) ?_;clear H a;intro a H
  refine still_does H rfl (does_load one_3 rfl (by first | (exact hB.rd S (by omega) (by omega); trace "ALT law_Possible 6.5.1 0") | (exact hl.rd S (by omega) (by omega); trace "ALT law_Possible 6.5.1 1") | (exact boxM.rd S (i := 0) rfl rfl; trace "ALT law_Possible 6.5.1 2"))) ?_;clear H a;intro a H
  refine sF H <| sr 2 rfl <| sg 7 7 28 35 false rfl rfl (fun hg8 => by
      have hq8 := hg8;try simp only [o1,o2,o3,o4,o5,o6,o7,o8,o9,oa] at hq8
      exact sy hg8 <| sr 1 rfl <| sy hg8 <| sr 1 rfl <| sy hg8 <| sK fun a H => by
            refine still_does H rfl (by first | (exact does_indexN sl_25 sz_3 rfl rfl (by first | (exact hB.adr (by omega); trace "ALT law_Possible 6.10.1 0") | (exact hl.adr (by omega); trace "ALT law_Possible 6.10.1 1")) (by omega); trace "ALT law_Possible 6.10.3 0") | (exact does_index sl_25 sz_3 rfl rfl (by first | (exact hB.adr (by omega); trace "ALT law_Possible 6.10.1 0") | (exact hl.adr (by omega); trace "ALT law_Possible 6.10.1 1")) (by omega) (by omega); trace "ALT law_Possible 6.10.3 1")) ?_;clear H a;intro a H
            exact sF H <| sy hg8 <| sK fun a H => by
                refine still_does H rfl (does_load one_3 rfl (by first | (exact hB.rd S (by omega) (by omega); trace "ALT law_Possible 6.11.1 0") | (exact hl.rd S (by omega) (by omega); trace "ALT law_Possible 6.11.1 1") | (exact boxM.rd S (i := 0) rfl rfl; trace "ALT law_Possible 6.11.1 2"))) ?_;clear H a;intro a H
                exact sF H <| sy hg8 <| sK fun a H => by
                    refine still_does H rfl ((by first | (exact does_field_pt fo_23_2 rfl; trace "ALT law_Possible 6.12.1 0") | (exact does_field fo_23_2 rfl; trace "ALT law_Possible 6.12.1 1"))) ?_;clear H a;intro a H
                    exact sF H <| sy hg8 <| sK fun a H => by
                        refine still_does H rfl (does_load one_3 rfl (by first | (exact hB.rd S (by omega) (by omega); trace "ALT law_Possible 6.13.1 0") | (exact hl.rd S (by omega) (by omega); trace "ALT law_Possible 6.13.1 1") | (exact boxM.rd S (i := 0) rfl rfl; trace "ALT law_Possible 6.13.1 2"))) ?_;clear H a;intro a H
                        exact sF H <| sy hg8 <| sr 1 rfl <| sz 7 rfl rfl rfl) <| sK ?_;clear H a;intro a H
  refine still_does H rfl ((by first | (exact does_or rfl rfl rfl; trace "ALT law_Possible 6.15.1 0") | (exact does_pick rfl rfl rfl; trace "ALT law_Possible 6.15.1 1"))) ?_;clear H a;intro a H
  refine sF H <| sE ?_;clear H a;intro a H
  refine k11 _ ?_;clear k11 K11
  refine cond_ H rfl (fun hc3 => ?_) (fun hc3 => ?_)
  ·skip
   try simp only [o1,o2,o3,o4,o5,o6,o7,o8,o9,oa] at hc3
   replace H := H.keep [] rfl
   refine sS H fun K12 k12=>sr 1 rfl <| sE ?_;clear H a;intro a H
   refine k12 _ ?_;clear k12 K12
   refine wp_ret ?_
   refine ret1 (fn := Try.f7) rfl H rfl ?_
   have e9 : posB (⟨links, pitch, limit⟩ : Chain) l n f = false := by
     rw [← Bool.not_eq_true, posB_iff]; rintro ⟨_, h9, _⟩; have h8 := h9 k (by (try dsimp only); omega); (try dsimp only at h8); omega
   rw [e9]; exact ⟨rfl, (S.sel [] rfl rfl)⟩
  try simp only [o1,o2,o3,o4,o5,o6,o7,o8,o9,oa] at hc3
  refine wp_skip ?_
  refine k10 _ _ ?_
  refine sO H <| sr 1 rfl <| sd (does_add rfl rfl (by unfold i64ok; omega)) <| sr 1 rfl <| sE ?_;clear H a;intro a H
  exact k7 (g1 - 1) (k + 1) a _ (by omega) (⟨by omega, by omega, fun q hq => by
    by_cases h : q = k
    · subst h; omega
    · exact hp.2.2 q (by omega)⟩) (S.sel [0] rfl rfl) (H.keep [7, 1, 2, 3] rfl)
 refine wp_exit ?_
 refine k5 _ _ ?_
 refine wp_seq_k fun K14 k14 => ?_
 have hk9 : k = n := by omega
 have hlk := hp.2.2; rw [hk9] at hlk
 have hf : ∀ k, k < n → 0 ≤ f k ∧ f k ≤ 100000 := fun k hk => by have := hlk k hk; omega
 refine sS H fun K15 k15=>sr 1 rfl <| sE ?_;clear H a;intro a H
 refine k15 _ ?_;clear k15 K15
 refine wp_block ?_
 refine loop_st (X := Nat) (R0 := _) [1, 2] H rfl (fun j => [(8, .int .i64 (j : Int))]) (fun j => []) (fun g j => j ≤ l.length ∧ g + j = l.length ∧ (l.take j).all (runB f) = true) (l.length) 0 ?_ (S.sel [0] rfl rfl) (H.keep [8, 1, 2] rfl) ?_
 · exact ⟨by omega, by omega, rfl⟩
 clear H S a
 intro g2 x2 a w2 hp S H K16 k16
 obtain ⟨j, rfl⟩ : ∃ y, y = x2 := ⟨_, rfl⟩
 refine wp_seq_k fun K17 k17 => ?_
 refine sS H fun K18 k18=>sr 2 rfl <| sL sl_24 rfl <| sr 1 rfl <| sE ?_;clear H a;intro a H
 refine k18 _ ?_;clear k18 K18
 refine condL H rfl (fun hc4 => ?_) (fun hc4 => ?_)
 ·skip
  refine wp_skip ?_
  refine k17 _ _ ?_
  refine wp_seq_k fun K19 k19 => ?_
  refine wp_block ?_
  have hgk := getD_ok hck.2.2 (show j < l.length by omega)
  unfold gaugeOk at hgk; simp only [decide_eq_true_eq] at hgk
  replace H := H.keep [1, 2, 8] rfl
  replace S := S.drew
  refine seq_wq [(0, true), (1, true), (2, true), (3, true), (4, true), (5, true), (6, true), (7, true), (8, true), (9, true), (10, true), (11, false), (12, true)] (by kernel_rfl) (by kernel_rfl) (S.sel [0] rfl rfl) fun K20 k20 => ?_
  refine qF H <| qr 3 rfl <| qK ?_;clear H a;intro a H
  refine wq_does H rfl rfl (fun _ S => by first | (exact does_indexN sl_24 sz_41 rfl rfl (by first | (exact hB.adr (by omega); trace "ALT law_Possible 11.3.1 0") | (exact hl.adr (by omega); trace "ALT law_Possible 11.3.1 1")) (by omega); trace "ALT law_Possible 11.3.3 0") | (exact does_index sl_24 sz_41 rfl rfl (by first | (exact hB.adr (by omega); trace "ALT law_Possible 11.3.1 0") | (exact hl.adr (by omega); trace "ALT law_Possible 11.3.1 1")) (by omega) (by omega); trace "ALT law_Possible 11.3.3 1")) ?_;clear H a;intro a H
  refine wq_does H rfl rfl (fun _ S => (by first | (exact does_field_pt fo_41_0 rfl; trace "ALT law_Possible 11.4.1 0") | (exact does_field fo_41_0 rfl; trace "ALT law_Possible 11.4.1 1"))) ?_;clear H a;intro a H
  refine wq_does H rfl rfl (fun _ S => does_load one_3 rfl (by first | (exact hB.rd S (by omega) (by omega); trace "ALT law_Possible 11.5.1 0") | (exact hl.rd S (by omega) (by omega); trace "ALT law_Possible 11.5.1 1") | (exact boxM.rd S (i := 0) rfl rfl; trace "ALT law_Possible 11.5.1 2"))) ?_;clear H a;intro a H
  refine qF H <| qr 2 rfl <| qK ?_;clear H a;intro a H
  refine wq_does H rfl rfl (fun _ S => by first | (exact does_indexN sl_24 sz_41 rfl rfl (by first | (exact hB.adr (by omega); trace "ALT law_Possible 11.8.1 0") | (exact hl.adr (by omega); trace "ALT law_Possible 11.8.1 1")) (by omega); trace "ALT law_Possible 11.8.3 0") | (exact does_index sl_24 sz_41 rfl rfl (by first | (exact hB.adr (by omega); trace "ALT law_Possible 11.8.1 0") | (exact hl.adr (by omega); trace "ALT law_Possible 11.8.1 1")) (by omega) (by omega); trace "ALT law_Possible 11.8.3 1")) ?_;clear H a;intro a H
  refine wq_does H rfl rfl (fun _ S => (by first | (exact does_field_pt fo_41_1 rfl; trace "ALT law_Possible 11.9.1 0") | (exact does_field fo_41_1 rfl; trace "ALT law_Possible 11.9.1 1"))) ?_;clear H a;intro a H
  refine wq_does H rfl rfl (fun _ S => does_load one_3 rfl (by first | (exact hB.rd S (by omega) (by omega); trace "ALT law_Possible 11.10.1 0") | (exact hl.rd S (by omega) (by omega); trace "ALT law_Possible 11.10.1 1") | (exact boxM.rd S (i := 0) rfl rfl; trace "ALT law_Possible 11.10.1 2"))) ?_;clear H a;intro a H
  refine wq_eff rfl ?_
  refine list_call H rfl rfl Try.func23 rfl rfl (law_sumI B n cs f (l.getD j Gauge.zero).fr (l.getD j Gauge.zero).to _ (hB.now S) (by omega) (by omega) (by omega) (by omega) hf) ?_;clear H a
  rintro _ _ a ⟨rfl, S2⟩ H
  replace S := S.call S2;clear S2
  refine wpList_nil (And.intro (S.sel [0] rfl rfl) ?_)
  refine qF H <| qr 1 rfl <| qK ?_;clear H a;intro a H
  refine wq_nil ?_
  refine k20 _ _ ?_
  clear k20 K20
  replace H := H.keep [1, 2, 8, 9] rfl
  refine sS H fun K21 k21=>sr 3 rfl <| sK ?_;clear H a;intro a H
  refine still_does H rfl (by first | (exact does_indexN sl_24 sz_41 rfl rfl (by first | (exact hB.adr (by omega); trace "ALT law_Possible 12.3.1 0") | (exact hl.adr (by omega); trace "ALT law_Possible 12.3.1 1")) (by omega); trace "ALT law_Possible 12.3.3 0") | (exact does_index sl_24 sz_41 rfl rfl (by first | (exact hB.adr (by omega); trace "ALT law_Possible 12.3.1 0") | (exact hl.adr (by omega); trace "ALT law_Possible 12.3.1 1")) (by omega) (by omega); trace "ALT law_Possible 12.3.3 1")) ?_;clear H a;intro a H
  refine still_does H rfl ((by first | (exact does_field_pt fo_41_2 rfl; trace "ALT law_Possible 12.4.1 0") | (exact does_field fo_41_2 rfl; trace "ALT law_Possible 12.4.1 1"))) ?_;clear H a;intro a H
  refine still_does H rfl ((by first | (exact does_field_pt fo_36_0 rfl; trace "ALT law_Possible 12.5.1 0") | (exact does_field fo_36_0 rfl; trace "ALT law_Possible 12.5.1 1"))) ?_;clear H a;intro a H
  refine still_does H rfl (does_load one_3 rfl (by first | (exact hB.rd S (by omega) (by omega); trace "ALT law_Possible 12.6.1 0") | (exact hl.rd S (by omega) (by omega); trace "ALT law_Possible 12.6.1 1") | (exact boxM.rd S (i := 0) rfl rfl; trace "ALT law_Possible 12.6.1 2"))) ?_;clear H a;intro a H
  refine sF H <| sr 2 rfl <| sg 8 8 63 71 false rfl rfl (fun hg9 => by
      have hq9 := hg9;try simp only [o1,o2,o3,o4,o5,o6,o7,o8,o9,oa] at hq9
      exact sy hg9 <| sr 1 rfl <| sy hg9 <| sr 1 rfl <| sy hg9 <| sr 1 rfl <| sy hg9 <| sK fun a H => by
            refine still_does H rfl (by first | (exact does_indexN sl_24 sz_41 rfl rfl (by first | (exact hB.adr (by omega); trace "ALT law_Possible 12.12.1 0") | (exact hl.adr (by omega); trace "ALT law_Possible 12.12.1 1")) (by omega); trace "ALT law_Possible 12.12.3 0") | (exact does_index sl_24 sz_41 rfl rfl (by first | (exact hB.adr (by omega); trace "ALT law_Possible 12.12.1 0") | (exact hl.adr (by omega); trace "ALT law_Possible 12.12.1 1")) (by omega) (by omega); trace "ALT law_Possible 12.12.3 1")) ?_;clear H a;intro a H
            exact sF H <| sy hg9 <| sK fun a H => by
                refine still_does H rfl ((by first | (exact does_field_pt fo_41_2 rfl; trace "ALT law_Possible 12.13.1 0") | (exact does_field fo_41_2 rfl; trace "ALT law_Possible 12.13.1 1"))) ?_;clear H a;intro a H
                exact sF H <| sy hg9 <| sK fun a H => by
                    refine still_does H rfl ((by first | (exact does_field_pt fo_36_1 rfl; trace "ALT law_Possible 12.14.1 0") | (exact does_field fo_36_1 rfl; trace "ALT law_Possible 12.14.1 1"))) ?_;clear H a;intro a H
                    exact sF H <| sy hg9 <| sK fun a H => by
                        refine still_does H rfl (does_load one_3 rfl (by first | (exact hB.rd S (by omega) (by omega); trace "ALT law_Possible 12.15.1 0") | (exact hl.rd S (by omega) (by omega); trace "ALT law_Possible 12.15.1 1") | (exact boxM.rd S (i := 0) rfl rfl; trace "ALT law_Possible 12.15.1 2"))) ?_;clear H a;intro a H
                        exact sF H <| sy hg9 <| sr 1 rfl <| sz 8 rfl rfl rfl) <| sK ?_;clear H a;intro a H
  refine still_does H rfl ((by first | (exact does_or rfl rfl rfl; trace "ALT law_Possible 12.17.1 0") | (exact does_pick rfl rfl rfl; trace "ALT law_Possible 12.17.1 1"))) ?_;clear H a;intro a H
  refine sF H <| sE ?_;clear H a;intro a H
  refine k21 _ ?_;clear k21 K21
  refine cond_ H rfl (fun hc5 => ?_) (fun hc5 => ?_)
  ·skip
   try simp only [o1,o2,o3,o4,o5,o6,o7,o8,o9,oa] at hc5
   replace H := H.keep [] rfl
   refine sS H fun K22 k22=>sr 1 rfl <| sE ?_;clear H a;intro a H
   refine k22 _ ?_;clear k22 K22
   refine wp_ret ?_
   refine ret1 (fn := Try.f7) rfl H rfl ?_
   have e8 : runB f (l.getD j Gauge.zero) = false := by unfold runB; simp only [decide_eq_false_iff_not]; omega
   have e9 : posB (⟨links, pitch, limit⟩ : Chain) l n f = false := by
     rw [← Bool.not_eq_true, posB_iff]; rintro ⟨_, _, h9⟩; rw [all_false (k := j) (d := Gauge.zero) (by omega) e8] at h9; cases h9
   rw [e9]; exact ⟨rfl, (S.sel [] rfl rfl)⟩
  try simp only [o1,o2,o3,o4,o5,o6,o7,o8,o9,oa] at hc5
  refine wp_skip ?_
  refine k19 _ _ ?_
  refine sO H <| sr 1 rfl <| sd (does_add rfl rfl (by unfold i64ok; omega)) <| sr 1 rfl <| sE ?_;clear H a;intro a H
  exact k16 (g2 - 1) (j + 1) a _ (by omega) (⟨by omega, by omega, all_take (d := Gauge.zero) (by omega) hp.2.2 (by unfold runB; simp only [decide_eq_true_eq]; omega)⟩) (S.sel [0] rfl rfl) (H.keep [8, 1, 2] rfl)
 refine wp_exit ?_
 refine k14 _ _ ?_
 refine sS H fun K24 k24=>sr 1 rfl <| sE ?_;clear H a;intro a H
 refine k24 _ ?_;clear k24 K24
 refine wp_ret ?_
 refine ret1 (fn := Try.f7) rfl H rfl ?_
 have e9 : posB (⟨links, pitch, limit⟩ : Chain) l n f = true := by
   have h9 := hp.2.2; rw [List.take_of_length_le (by omega)] at h9
   exact posB_iff.2 ⟨by (try dsimp only); omega, fun k hk => hlk k (by (try dsimp only at hk); omega), h9⟩
 rw [e9]; exact ⟨rfl, (S.sel [] rfl rfl)⟩

def fnL (l : List Int) : Nat → Int := fun k => l.getD k 0
theorem law_sum0 (B : Option Addr) (n cs : Nat) (f : Nat → Int) (e : Nat) (w : World) (hB : InS w noF 1 B n (fun k _ => .int .i64 (f k))) (hb : e ≤ n) (hn : n ≤ 1000) (hf : ∀ k, k < n → 0 ≤ f k ∧ f k ≤ 100000) :
    Calls Try.prog 23 [.slice B n cs, .int .i64 0, .int .i64 (e : Int)].toArray w (Ret fun v w' => v = .int .i64 (sumR f 0 e) ∧ St w noF [] w') := law_sum B n cs f 0 e w hB (Nat.zero_le _) hb hn hf
theorem whole_cases {c : Chain} {l : List Gauge} (h : checkE c l = 0) : ∀ asked, (asked = false ∧ wholeO c l asked = .error 1) ∨ (asked = true ∧ weaveW c l yes = none ∧ wholeO c l asked = .error 3) ∨ ∃ M, asked = true ∧ weaveW c l yes = some M ∧ wholeO c l asked = .ok M := by
  intro asked
  cases asked with
  | false => left; unfold wholeO; rw [if_neg (by omega)]; exact ⟨rfl, rfl⟩
  | true =>
    right
    cases hw : weaveW c l yes with
    | none => left; unfold wholeO; rw [if_neg (by omega), if_pos rfl, hw]; exact ⟨rfl, rfl, rfl⟩
    | some M => right; unfold wholeO; rw [if_neg (by omega), if_pos rfl, hw]; exact ⟨M, rfl, rfl, rfl⟩


end Go.Proofs.Ytdepakimbagonaa
