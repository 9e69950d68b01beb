/- GaC. Printed by gen.py. -/
import Derived.Test.YtdepakimbagonaaGaB
import Derived.Test.YtdepakimbagonaaChPo
namespace Go.Proofs.Ytdepakimbagonaa
open Go.RowKit
set_option linter.unusedVariables false
set_option linter.unusedSimpArgs false
set_option maxRecDepth 100000
set_option maxHeartbeats 4000000


def alB (n : Int) (r : Rdg) : Bool := decide (r.says - wideI r ≤ n ∧ n ≤ r.says + wideI r)
def allowB (l : List Rdg) (n : Int) : Bool := decide (0 < l.length ∧ l.length ≤ 8 ∧ rdE l = 0 ∧ l.all (alB n) = true)
theorem rd_ok0 {l : List Rdg} (h : rdE l = 0) : l.length ≤ 12 ∧ l.all rdOk = true := by
  unfold rdE at h
  split at h
  · cases h
  · split at h
    · rename_i h1 h2; exact ⟨by omega, h2⟩
    · cases h
theorem com_in {l : List Rdg} {n : Int} (h : l.all (alB n) = true) (h0 : l.all rdOk = true) (hn : -1099511627776 ≤ n ∧ n ≤ 1099511627776) : ∀ k, k ≤ l.length → comL l k ≤ n ∧ n ≤ comH l k ∧ (0 < k → comH l k ≤ 1101000) := by
  intro k
  induction k with
  | zero => intro _; exact ⟨hn.1, hn.2, fun h => absurd h (Nat.lt_irrefl _)⟩
  | succ k ih =>
    intro hk
    obtain ⟨h1, h2, _⟩ := ih (by omega)
    have h3 : alB n (l.getD k Rdg.zero) = true := by
      rw [List.getD_eq_getElem?_getD, List.getElem?_eq_getElem (by omega)]
      exact List.all_eq_true.1 h _ (List.getElem_mem _)
    have h4 := rd_bd (rd_at h0 (show k < l.length by omega))
    unfold alB at h3
    simp only [decide_eq_true_eq] at h3
    have h5 : wideI (l.getD k Rdg.zero) = (l.getD k Rdg.zero).err + (l.getD k Rdg.zero).drift * (l.getD k Rdg.zero).days := rfl
    rw [comL, comH]
    omega


theorem fau_Truth (l : List Rdg) (A : Option Addr) (cp : Nat) (w : World) (hl : InS w noF 4 A l.length (rdcell l)) (hn : l.length ≤ 12) (hok : rdE l = 0) (h0 : 0 < l.length) (hag : comL l l.length ≤ comH l l.length) :
    Calls Try.prog 10 [.slice A l.length cp].toArray w (Ret (fun u w' => u = .tuple #[.agg [.int .i64 (comL l l.length), .int .i64 (comH l l.length)].toArray, .int .i64 0] ∧ St w noF [] w')) := by
 refine enter Try.func10 rfl Try.ntmps10 rfl (fun a H => ?_)
 have S := St.start w
 refine seq_list fun K1 k1 => ?_
 refine list_alloc H rfl S ze_36 ?_;clear H a S;intro b2 _ a hb2 hbw2 S H
 refine ls 1 H <| sr 1 rfl <| sE ?_;clear H a;intro a H
 refine k1 _ _ ?_;clear k1 K1
 refine wp_seq_k fun K2 k2 => ?_
 refine seq_list fun K3 k3 => ?_
 refine ls 1 H <| sr 1 rfl <| sE ?_;clear H a;intro a H
 refine list_call H rfl rfl Try.func30 rfl rfl (fau_readings l A cp _ (hl.now S) (by omega)) ?_;clear H a
 rintro _ _ a ⟨rfl, S2⟩ H
 replace S := S.call S2;clear S2
 rw [hok] at H
 refine ls 1 H <| sr 1 rfl <| sE ?_;clear H a;intro a H
 refine k3 _ _ ?_;clear k3 K3
 refine sS H fun K4 k4=>sr 2 rfl <| sE ?_;clear H a;intro a H
 refine k4 _ ?_;clear k4 K4
 refine condN H rfl (fun hc1 => ?_) (fun hc1 => ?_)
 ·skip
  exfalso; omega
 refine wp_skip ?_
 refine k2 _ _ ?_
 replace H := H.keep [0, 2] rfl
 refine seq_list fun K5 k5 => ?_
 refine ls 1 H <| sr 1 rfl <| sE ?_;clear H a;intro a H
 refine list_call H rfl rfl Try.func31 rfl rfl (fau_common l A cp _ (hl.now S) hn (rd_ok0 hok).2) ?_;clear H a
 rintro _ _ a ⟨rfl, S2⟩ H
 replace S := S.call S2;clear S2
 refine ls 3 H <| sr 3 rfl <| sE ?_;clear H a;intro a H
 refine list_alloc H rfl S ze_36 ?_;clear H a S;intro b5 _ a hb5 hbw5 S H
 first | (refine list_store H S (i := 0) rfl rfl rfl rfl sz_36 rfl rfl ?_; trace "ALT fau_Truth 4.6.1 0") | (refine list_store H S (i := 1) rfl rfl rfl rfl sz_36 rfl rfl ?_; trace "ALT fau_Truth 4.6.1 1") | (refine list_store_own H S (i := 0) rfl rfl rfl (by omega) (by omega) sz_36 rfl ?_; trace "ALT fau_Truth 4.6.1 2") | (refine list_store_own H S (i := 1) rfl rfl rfl (by omega) (by omega) sz_36 rfl ?_; trace "ALT fau_Truth 4.6.1 3")
 clear H a S;intro _ a S H
 refine ls 1 H <| sr 1 rfl <| sE ?_;clear H a;intro a H
 refine k5 _ _ ?_;clear k5 K5
 refine wp_seq_k fun K6 k6 => ?_
 replace H := H.keep [0, 2, 5, 6] rfl
 refine sS H fun K7 k7=>sr 1 rfl <| sL sl_26 rfl <| sr 2 rfl <| sg 2 3 21 23 false rfl rfl (fun hg4 => sy hg4 <| sr 1 rfl <| sy hg4 <| sr 1 rfl <| sz 2 rfl rfl rfl) <| sK ?_;clear H a;intro a H
 refine still_does H rfl ((by first | (exact does_or rfl rfl rfl; trace "ALT fau_Truth 5.6.1 0") | (exact does_pick rfl rfl rfl; trace "ALT fau_Truth 5.6.1 1"))) ?_;clear H a;intro a H
 refine sF H <| sE ?_;clear H a;intro a H
 refine k7 _ ?_;clear k7 K7
 refine cond_ H rfl (fun hc2 => ?_) (fun hc2 => ?_)
 ·skip
  simp only [o1,o2,o3,o4,o5,o6,o7,o8,o9,oa,Bool.not_eq_true',decide_eq_true_eq,decide_eq_false_iff_not,Bool.or_eq_true,Bool.or_eq_false_iff] at hc2
  exfalso; omega
 simp only [o1,o2,o3,o4,o5,o6,o7,o8,o9,oa,Bool.not_eq_true',decide_eq_true_eq,decide_eq_false_iff_not,Bool.or_eq_true,Bool.or_eq_false_iff] at hc2
 refine wp_skip ?_
 refine k6 _ _ ?_
 replace H := H.keep [2, 5] rfl
 refine seq_list fun K8 k8 => ?_
 refine list_does H rfl ((by first | (exact does_loadBox agg_36 sz_36 rfl S (i := 0) rfl rfl; trace "ALT fau_Truth 7.0.1 0") | (exact does_loadBox agg_36 sz_36 rfl S (i := 1) rfl rfl; trace "ALT fau_Truth 7.0.1 1"))) ?_;clear H a;intro a H
 first | (refine list_store H S (i := 0) rfl rfl rfl rfl sz_36 rfl rfl ?_; trace "ALT fau_Truth 7.1.1 0") | (refine list_store H S (i := 1) rfl rfl rfl rfl sz_36 rfl rfl ?_; trace "ALT fau_Truth 7.1.1 1") | (refine list_store_own H S (i := 0) rfl rfl rfl (by omega) (by omega) sz_36 rfl ?_; trace "ALT fau_Truth 7.1.1 2") | (refine list_store_own H S (i := 1) rfl rfl rfl (by omega) (by omega) sz_36 rfl ?_; trace "ALT fau_Truth 7.1.1 3")
 clear H a S;intro _ a S H
 refine ls 1 H <| sr 1 rfl <| sE ?_;clear H a;intro a H
 refine k8 _ _ ?_;clear k8 K8
 refine wp_ret ?_
 refine retA1 (fn := Try.f10) rfl H rfl agg_36 (by exact sz_36) (boxAgg S (i := 1) rfl) rfl ?_
 exact ⟨rfl, (S.sel [] rfl rfl)⟩

theorem top_allow (l : List Rdg) (A : Option Addr) (cp : Nat) (n : Int) (w : World) (hl : InS w noF 4 A l.length (rdcell l)) (hn : l.length ≤ 9223372036854775807) :
    Calls Try.prog 9 [.slice A l.length cp, .int .i64 n].toArray w (Ret (fun u w' => u = .bool (allowB l n) ∧ St w noF [] w')) := by
 refine enter Try.func9 rfl Try.ntmps9 rfl (fun a H => ?_)
 have S := St.start w
 refine sS H fun K1 k1=>sr 1 rfl <| sE ?_;clear H a;intro a H
 refine k1 _ ?_;clear k1 K1
 refine wp_seq_k fun K2 k2 => ?_
 replace H := H.keep [0, 1] rfl
 refine seq_list fun K3 k3 => ?_
 refine ls 7 H <| sr 1 rfl <| sL sl_26 rfl <| sr 2 rfl <| sg 3 3 10 13 false rfl rfl (fun hg4 => by
     have hq4 := hg4;try simp only [o1,o2,o3,o4,o5,o6,o7,o8,o9,oa] at hq4
     exact sy hg4 <| sr 1 rfl <| sy hg4 <| sL sl_26 rfl <| sy hg4 <| sr 1 rfl <| sz 3 rfl rfl rfl) <| sE ?_;clear H a;intro a H
 refine list_does H rfl ((by first | (exact does_or rfl rfl rfl; trace "ALT top_allow 1.7.1 0") | (exact does_pick rfl rfl rfl; trace "ALT top_allow 1.7.1 1"))) ?_;clear H a;intro a H
 refine ls 1 H <| sr 1 rfl <| sE ?_;clear H a;intro a H
 apply list_guard (i := 8) (g := 15) (t := 18) (b := false) 3 H S rfl rfl (by kernel_rfl) (by kernel_rfl) rfl rfl
 case h1 =>
  intro hg9
  have hq9 := hg9; try simp only [o1,o2,o3,o4,o5,o6,o7,o8,o9,oa] at hq9
  refine ls 1 H <| sy hg9 <| sr 1 rfl <| sE ?_;intro a H
  refine list_yes' H rfl rfl (by assumption) ?_
  refine list_call H rfl rfl Try.func28 rfl rfl (rten_Check l A cp _ (hl.now S) hn) ?_
  rintro _ _ a ⟨rfl, S2⟩ H
  replace S := S.call S2;clear S2
  refine ls 1 H <| sy hg9 <| sr 1 rfl <| sE ?_;intro a H
  exact wpList_nil ⟨H.strip 3 rfl rfl, (S.sel [] rfl rfl)⟩
 clear H a S;intro a _ H S
 refine list_does H rfl ((by first | (exact does_or rfl rfl rfl; trace "ALT top_allow 1.12.1 0") | (exact does_pick rfl rfl rfl; trace "ALT top_allow 1.12.1 1"))) ?_;clear H a;intro a H
 refine k3 _ _ ?_;clear k3 K3
 refine cond_ H rfl (fun hc1 => ?_) (fun hc1 => ?_)
 ·skip
  try simp only [o1,o2,o3,o4,o5,o6,o7,o8,o9,oa] at hc1
  replace H := H.keep [] rfl
  refine sS H fun K4 k4=>sr 1 rfl <| sE ?_;clear H a;intro a H
  refine k4 _ ?_;clear k4 K4
  refine wp_ret ?_
  refine ret1 (fn := Try.f9) rfl H rfl ?_
  have e9 : allowB l n = false := by unfold allowB; simp only [decide_eq_false_iff_not]; rintro ⟨h1, h2, h3, _⟩; omega
  rw [e9]; exact ⟨rfl, (S.sel [] rfl rfl)⟩
 try simp only [o1,o2,o3,o4,o5,o6,o7,o8,o9,oa] at hc1
 refine wp_skip ?_
 refine k2 _ _ ?_
 refine wp_seq_k fun K5 k5 => ?_
 refine sS H fun K6 k6=>sr 1 rfl <| sE ?_;clear H a;intro a H
 refine k6 _ ?_;clear k6 K6
 refine wp_block ?_
 refine loop_st (X := Nat) (R0 := _) [0, 1] H rfl (fun k => [(5, .int .i64 (k : Int))]) (fun k => []) (fun g k => k ≤ l.length ∧ g + k = l.length ∧ (l.take k).all (alB n) = true) (l.length) 0 ?_ (S.sel [] rfl rfl) (H.keep [5, 0, 1] rfl) ?_
 · exact ⟨by omega, by omega, by simp⟩
 clear H S a
 intro g1 x1 a w1 hp S H K7 k7
 obtain ⟨k, rfl⟩ : ∃ y, y = x1 := ⟨_, rfl⟩
 refine wp_seq_k fun K8 k8 => ?_
 refine sS H fun K9 k9=>sr 2 rfl <| sL sl_26 rfl <| sr 1 rfl <| sE ?_;clear H a;intro a H
 refine k9 _ ?_;clear k9 K9
 refine condL H rfl (fun hc2 => ?_) (fun hc2 => ?_)
 ·skip
  refine wp_skip ?_
  refine k8 _ _ ?_
  refine wp_seq_k fun K10 k10 => ?_
  refine wp_block ?_
  replace H := H.keep [0, 1, 5] rfl
  refine seq_list fun K11 k11 => ?_
  refine ls 2 H <| sr 2 rfl <| sE ?_;clear H a;intro a H
  refine list_does H rfl (by first | (exact does_indexN sl_26 sz_95 rfl rfl (hl.adr (by omega)) (by omega); trace "ALT top_allow 6.2.3 0") | (exact does_index sl_26 sz_95 rfl rfl (hl.adr (by omega)) (by omega) (by omega); trace "ALT top_allow 6.2.3 1")) ?_;clear H a;intro a H
  refine ls 1 H <| sd ((does_loadIn agg_95 sz_95 rfl S hl (by omega) (by omega))) <| sE ?_;clear H a;intro a H
  refine list_call H rfl rfl Try.func29 rfl rfl (rten_Allows (l.getD k Rdg.zero) _ (rd_at (rd_ok0 (by omega)).2 (by omega))) ?_;clear H a
  rintro _ _ a ⟨rfl, S2⟩ H
  replace S := S.call S2;clear S2
  refine list_alloc H rfl S ze_36 ?_;clear H a S;intro b6 _ a hb6 hbw6 S H
  first | (refine list_store H S (i := 0) rfl rfl rfl rfl sz_36 rfl rfl ?_; trace "ALT top_allow 6.6.1 0") | (refine list_store_own H S (i := 0) rfl rfl rfl (by omega) (by omega) sz_36 rfl ?_; trace "ALT top_allow 6.6.1 1")
  clear H a S;intro _ a S H
  refine k11 _ _ ?_;clear k11 K11
  replace H := H.keep [0, 1, 5, 6] rfl
  refine sS H fun K12 k12=>sr 1 rfl <| sK ?_;clear H a;intro a H
  refine still_does H rfl ((by first | (exact does_field_pt fo_36_0 rfl; trace "ALT top_allow 7.1.1 0") | (exact does_field fo_36_0 rfl; trace "ALT top_allow 7.1.1 1"))) ?_;clear H a;intro a H
  refine sF H <| sl S 0 one_3 rfl rfl rfl <| sr 2 rfl <| sg 4 4 35 39 false rfl rfl (fun hg5 => by
      have hq5 := hg5;try simp only [o1,o2,o3,o4,o5,o6,o7,o8,o9,oa] at hq5
      exact sy hg5 <| sr 1 rfl <| sy hg5 <| sK fun a H => by
            refine still_does H rfl ((by first | (exact does_field_pt fo_36_1 rfl; trace "ALT top_allow 7.6.1 0") | (exact does_field fo_36_1 rfl; trace "ALT top_allow 7.6.1 1"))) ?_;clear H a;intro a H
            exact sF H <| sy hg5 <| sl S 0 one_3 rfl rfl rfl <| sy hg5 <| sr 1 rfl <| sz 4 rfl rfl rfl) <| sK ?_;clear H a;intro a H
  refine still_does H rfl ((by first | (exact does_or rfl rfl rfl; trace "ALT top_allow 7.9.1 0") | (exact does_pick rfl rfl rfl; trace "ALT top_allow 7.9.1 1"))) ?_;clear H a;intro a H
  refine sF H <| sE ?_;clear H a;intro a H
  refine k12 _ ?_;clear k12 K12
  refine cond_ H rfl (fun hc3 => ?_) (fun hc3 => ?_)
  ·skip
   try simp only [o1,o2,o3,o4,o5,o6,o7,o8,o9,oa] at hc3
   replace H := H.keep [] rfl
   refine sS H fun K13 k13=>sr 1 rfl <| sE ?_;clear H a;intro a H
   refine k13 _ ?_;clear k13 K13
   refine wp_ret ?_
   refine ret1 (fn := Try.f9) rfl H rfl ?_
   have e9 : allowB l n = false := by
     unfold allowB; rw [all_false (k := k) (d := Rdg.zero) (by omega) (by unfold alB; simp only [decide_eq_false_iff_not]; omega)]; simp
   rw [e9]; exact ⟨rfl, (S.sel [] rfl rfl)⟩
  try simp only [o1,o2,o3,o4,o5,o6,o7,o8,o9,oa] at hc3
  refine wp_skip ?_
  refine k10 _ _ ?_
  refine sO H <| sr 1 rfl <| sd (does_add rfl rfl (by unfold i64ok; omega)) <| sr 1 rfl <| sE ?_;clear H a;intro a H
  exact k7 (g1 - 1) (k + 1) a _ (by omega) (⟨by omega, by omega, all_take (d := Rdg.zero) (by omega) hp.2.2 (by unfold alB; simp only [decide_eq_true_eq]; omega)⟩) (S.sel [] rfl rfl) (H.keep [5, 0, 1] rfl)
 refine wp_exit ?_
 refine k5 _ _ ?_
 refine sS H fun K15 k15=>sr 1 rfl <| sE ?_;clear H a;intro a H
 refine k15 _ ?_;clear k15 K15
 refine wp_ret ?_
 refine ret1 (fn := Try.f9) rfl H rfl ?_
 rw [List.take_of_length_le (by omega)] at hp
 have e9 : allowB l n = true := by unfold allowB; simp only [decide_eq_true_eq]; exact ⟨by omega, by omega, by omega, hp.2.2⟩
 rw [e9]; exact ⟨rfl, (S.sel [] rfl rfl)⟩

end Go.Proofs.Ytdepakimbagonaa
