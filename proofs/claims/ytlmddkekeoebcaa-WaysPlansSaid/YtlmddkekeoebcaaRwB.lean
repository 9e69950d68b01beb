/- RwB. Printed by gen.py. -/
import Derived.Test.YtlmddkekeoebcaaRwA
import Derived.Test.YtlmddkekeoebcaaE2
namespace Go.Proofs.Ytlmddkekeoebcaa
open Go.RowKit
set_option linter.unusedVariables false
set_option linter.unusedSimpArgs false
set_option maxRecDepth 100000
set_option maxHeartbeats 4000000


theorem ap_row2 {n i k : Nat} {D : Nat → Nat → Int} (hk : n ≤ k) (h : ∀ i' k', i' < i → i' < k' → k' < n → 0 ≤ D k' i') (hr : ∀ q, i < q → q < k → 0 ≤ D q i) : ∀ i' k', i' < i + 1 → i' < k' → k' < n → 0 ≤ D k' i' := fun i' k' h1 h2 h3 => by
  by_cases e : i' = i
  · subst e; exact hr k' h2 (by omega)
  · exact h i' k' (by omega) h2 h3
theorem ap_next2 {i k : Nat} {Q : Nat → Int} (h : ∀ q, i < q → q < k → 0 ≤ Q q) (hk : 0 ≤ Q k) : ∀ q, i < q → q < k + 1 → 0 ≤ Q q := fun q h1 hq => by
  by_cases e : q = k
  · subst e; exact hk
  · exact h q h1 (by omega)
theorem pcell_one (l : List Psg) : ∀ k j, k < l.length → j < 7 → (pcell l k j).oneCell' = true := fun k j _ _ => by
  unfold pcell Psg.cell
  split <;> rfl
def sameI (a b : List Int) : Bool := decide (a = b)
theorem same_len {a b : List Int} (h : a.length ≠ b.length) : sameI a b = false := decide_eq_false fun e => h (by rw [e])
theorem same_at {a b : List Int} {k : Nat} (h : ¬ a.getD k 0 = b.getD k 0) : sameI a b = false := decide_eq_false fun e => h (by rw [e])
theorem same_all {a b : List Int} (hn : a.length = b.length) (h : ∀ k, k < a.length → a.getD k 0 = b.getD k 0) : sameI a b = true := decide_eq_true (List.ext_getElem hn fun k h1 h2 => by
  have := h k h1
  rwa [List.getD_eq_getElem?_getD, List.getD_eq_getElem?_getD, List.getElem?_eq_getElem h1, List.getElem?_eq_getElem h2] at this)
theorem eq_next {a b : List Int} {k : Nat} (h : ∀ q, q < k → a.getD q 0 = b.getD q 0) (hk : a.getD k 0 = b.getD k 0) : ∀ q, q < k + 1 → a.getD q 0 = b.getD q 0 := fun q hq => by
  by_cases e : q = k
  · subst e; exact hk
  · exact h q (by omega)


theorem ref_Apart (pl : Int) (ps : List Psg) (PA : Option Addr) (pc : Nat) (xs : List Int) (XA : Option Addr) (xc : Nat) (out : Int) (help : Bool) (l : List Int) (LA : Option Addr) (lc : Nat) (w : World) (hps : InS w noF 7 PA ps.length (pcell ps)) (hpn : ps.length ≤ 9223372036854775807) (hxs : InS w noF 1 XA xs.length (icl xs)) (hxn : xs.length ≤ 9223372036854775807) (hl : InS w noF 1 LA l.length (icl l)) (hln : l.length ≤ 9223372036854775807) :
    Calls Try.prog 18 [.agg [.int .i64 pl, .slice PA ps.length pc, .slice XA xs.length xc].toArray, .int .i64 out, .bool help, .slice LA l.length lc].toArray w (Ret (fun u w' => apartV (askE pl ps xs out l) (fun x y => dst pl.toNat ps out help y.toNat x.toNat) l u ∧ St w noF [] w')) := by
 refine enter Try.func18 rfl Try.ntmps18 rfl (fun a H => ?_)
 have S := St.start w
 refine seq_list fun K1 k1 => ?_
 refine list_box H rfl S rfl rfl ?_;clear H a S;intro b4 _ a hb4 hbw4 S H
 refine ls 4 H <| sr 4 rfl <| sE ?_;clear H a;intro a H
 refine k1 _ _ ?_;clear k1 K1
 replace H := H.keep [1, 2, 3, 4] rfl
 refine seq_list fun K2 k2 => ?_
 refine ls 3 H <| sd ((does_loadBox agg_25 sz_25 rfl S (i := 0) rfl rfl)) <| sr 2 rfl <| sE ?_;clear H a;intro a H
 refine list_call H rfl rfl Try.func52 rfl rfl (ref_checkPlaces pl ps PA pc xs XA xc out l LA lc _ (hps.now S) hpn (hxs.now S) hxn (hl.now S) hln) ?_;clear H a
 rintro _ _ a ⟨rfl, S2⟩ H
 replace S := S.call S2;clear S2
 refine ls 1 H <| sr 1 rfl <| sE ?_;clear H a;intro a H
 refine k2 _ _ ?_;clear k2 K2
 refine wp_seq_k fun K3 k3 => ?_
 refine sS H fun K4 k4=>sr 2 rfl <| sE ?_;clear H a;intro a H
 refine k4 _ ?_;clear k4 K4
 refine condN H rfl (fun hc1 => ?_) (fun hc1 => ?_)
 ·skip
  replace H := H.keep [12] rfl
  refine sS H fun K5 k5=>sr 5 rfl <| sE ?_;clear H a;intro a H
  refine k5 _ ?_;clear k5 K5
  refine wp_ret ?_
  refine ret4 (fn := Try.f18) rfl H rfl rfl rfl rfl ?_
  exact ⟨.inl ⟨hc1, rfl⟩, (S.sel [] rfl rfl)⟩
 obtain ⟨hst, hou, hpl⟩ := askE_ok hc1
 have hV0 := st_valid hst
 obtain ⟨P, rfl⟩ : ∃ P : Nat, pl = P := ⟨pl.toNat, by have := hV0.size; omega⟩
 have hV := hV0
 have hP10 := hV.size
 refine wp_skip ?_
 refine k3 _ _ ?_
 refine wp_seq_k fun K6 k6 => ?_
 refine sS H fun K7 k7=>sr 1 rfl <| sE ?_;clear H a;intro a H
 refine k7 _ ?_;clear k7 K7
 refine wp_block ?_
 refine loop_st (X := Nat) (R0 := _) [1, 2, 3, 4] H rfl (fun i => [(13, .int .i64 (i : Int))]) (fun i => []) (fun g i => i ≤ l.length ∧ g + i = l.length ∧ ∀ i' k', i' < i → i' < k' → k' < l.length → 0 ≤ dst P ps out help (l.getD k' 0).toNat (l.getD i' 0).toNat) (l.length) 0 ?_ (S.sel [0] rfl rfl) (H.keep [13, 1, 2, 3, 4] rfl) ?_
 · exact ⟨by omega, by omega, fun i' k' h => absurd h (Nat.not_lt_zero i')⟩
 clear H S a
 intro g1 x1 a w1 hp S H K8 k8
 obtain ⟨i, rfl⟩ : ∃ y, y = x1 := ⟨_, rfl⟩
 obtain ⟨hil, hgi, hbe⟩ := hp
 refine wp_seq_k fun K9 k9 => ?_
 refine sS H fun K10 k10=>sr 2 rfl <| sL sl_23 rfl <| sr 1 rfl <| sE ?_;clear H a;intro a H
 refine k10 _ ?_;clear k10 K10
 refine condL H rfl (fun hc2 => ?_) (fun hc2 => ?_)
 ·skip
  refine wp_skip ?_
  refine k9 _ _ ?_
  refine wp_seq_k fun K11 k11 => ?_
  refine wp_block ?_
  refine sS H fun K12 k12=>sr 1 rfl <| sd (does_add rfl rfl (by unfold i64ok; omega)) <| sr 1 rfl <| sE ?_;clear H a;intro a H
  refine k12 _ ?_;clear k12 K12
  refine wp_block ?_
  refine loop_st (X := Nat) (R0 := _) [1, 2, 3, 4, 13] H rfl (fun k => [(14, .int .i64 (k : Int))]) (fun k => []) (fun g k => i + 1 ≤ k ∧ k ≤ l.length ∧ g + k = l.length ∧ ∀ q, i < q → q < k → 0 ≤ dst P ps out help (l.getD q 0).toNat (l.getD i 0).toNat) (l.length - (i + 1)) (i + 1) ?_ (S.sel [0] rfl rfl) (H.keep [14, 1, 2, 3, 4, 13] rfl) ?_
  · exact ⟨by omega, by omega, by omega, fun q h1 hq => by omega⟩
  clear H S a
  intro g2 x2 a w2 hp S H K13 k13
  obtain ⟨k, rfl⟩ : ∃ y, y = x2 := ⟨_, rfl⟩
  refine wp_seq_k fun K14 k14 => ?_
  refine sS H fun K15 k15=>sr 2 rfl <| sL sl_23 rfl <| sr 1 rfl <| sE ?_;clear H a;intro a H
  refine k15 _ ?_;clear k15 K15
  refine condL H rfl (fun hc3 => ?_) (fun hc3 => ?_)
  ·skip
   refine wp_skip ?_
   refine k14 _ _ ?_
   refine wp_seq_k fun K16 k16 => ?_
   refine wp_block ?_
   have hik := hpl k (by omega)
   have hii := hpl i (by omega)
   replace H := H.keep [1, 2, 3, 4, 13, 14] rfl
   replace S := S.drew
   refine seq_wt 999 (.q 0 (.p 1 (.p 2 (.p 3 (.p 4 (.p 5 (.q 6 (.p 8 (.p 9 (.p 10 (.q 11 (.e 7 (.e 12 (.e 13 (.p 14 .nil))))))))))))))) (by kernel_rfl) (by kernel_rfl) (S.sel [0] rfl rfl) fun K17 k17 => ?_
   refine wt_does H rfl rfl (fun _ S => (does_loadBox agg_25 sz_25 rfl S (i := 0) rfl rfl)) ?_;clear H a;intro a H
   refine wt_pure H rfl rfl (fun _ => does_move rfl) ?_;clear H a;intro a H
   refine wt_pure H rfl rfl (fun _ => does_move rfl) ?_;clear H a;intro a H
   refine wt_pure H rfl rfl (fun _ => does_move rfl) ?_;clear H a;intro a H
   refine wt_pure H rfl rfl (fun _ => does_move rfl) ?_;clear H a;intro a H
   refine wt_pure H rfl rfl (fun _ => does_indexN sl_23 sz_3 rfl rfl (hl.adr (by omega)) (by omega)) ?_;clear H a;intro a H
   refine wt_does H rfl rfl (fun _ S => does_load one_3 rfl (hl.rd S (by omega) (by omega))) ?_;clear H a;intro a H
   refine wt_pure H rfl rfl (fun _ => does_move rfl) ?_;clear H a;intro a H
   refine wt_pure H rfl rfl (fun _ => does_move rfl) ?_;clear H a;intro a H
   refine wt_pure H rfl rfl (fun _ => does_indexN sl_23 sz_3 rfl rfl (hl.adr (by omega)) (by omega)) ?_;clear H a;intro a H
   refine wt_does H rfl rfl (fun _ S => does_load one_3 rfl (hl.rd S (by omega) (by omega))) ?_;clear H a;intro a H
   refine wt_eff rfl ?_
   refine list_call H rfl rfl Try.func53 rfl rfl (ref_reach P ps PA pc xs XA xc out help (l.getD k 0) _ (hps.now S) hpn (hxs.now S) hxn hV hou.1 (by omega)) ?_;clear H a
   rintro _ _ a ⟨A5, c5, rfl, hdo, S2⟩ H
   replace S := S.call S2;clear S2
   have hsm := hdo.sml (l.getD i 0).toNat (by omega)
   refine wpList_nil (And.intro (Or.inr (S.sel [1] rfl rfl)) ?_)
   refine wt_eff rfl ?_
   refine ls 1 H <| sI sl_23 sz_3 rfl rfl (ownM.adr S (i := 0) rfl (by omega)) (by omega) (by omega) <| sE ?_;clear H a;intro a H
   refine wpList_nil (And.intro (Or.inr (S.sel [1] rfl rfl)) ?_)
   refine wt_eff rfl ?_
   refine ls 1 H <| slm one_3 rfl (ownM.rd S (i := 0) rfl (by omega) (by omega)) <| sE ?_;clear H a;intro a H
   refine wpList_nil (And.intro (Or.inr (S.sel [1] rfl rfl)) ?_)
   refine wt_pure H rfl rfl (fun _ => does_eql rfl rfl) ?_;clear H a;intro a H
   refine wt_nil ?_
   refine k17 _ _ ?_
   clear k17 K17
   refine condE H rfl (fun hc4 => ?_) (fun hc4 => ?_)
   ·skip
    replace H := H.keep [3, 13, 14] rfl
    replace S := S.drew
    refine sD H fun K18 k18=>sr 2 rfl <| si sl_23 sz_3 rfl rfl (hl.adr (by omega)) (by omega) <| slm one_3 rfl (hl.rd S (by omega) (by omega)) <| sr 2 rfl <| si sl_23 sz_3 rfl rfl (hl.adr (by omega)) (by omega) <| slm one_3 rfl (hl.rd S (by omega) (by omega)) <| sr 4 rfl <| sE ?_;clear H a;intro a H
    refine k18 _ ?_;clear k18 K18
    refine wp_ret ?_
    refine ret4 (fn := Try.f18) rfl H rfl rfl rfl rfl ?_
    exact ⟨.inr ⟨hc1, .inl ⟨i, k, by omega, by omega, by (rw [Int.toNat_natCast]; exact (rv_far hsm).1 hc4), hbe, fun q h1 h2 => (by rw [Int.toNat_natCast]; exact hp.2.2.2 q h1 h2), rfl⟩⟩, (S.sel [] rfl rfl)⟩
   refine wp_skip ?_
   refine k16 _ _ ?_
   replace H := H.keep [1, 2, 3, 4, 13, 14] rfl
   refine sO H <| sr 1 rfl <| sd (does_add rfl rfl (by unfold i64ok; omega)) <| sr 1 rfl <| sE ?_;clear H a;intro a H
   exact k13 (g2 - 1) (k + 1) a _ (by omega) (⟨by omega, by omega, by omega, ap_next2 hp.2.2.2 (by have h9 := mt (rv_far hsm).2 hc4; omega)⟩) (S.sel [1] rfl rfl) (H.keep [14, 1, 2, 3, 4, 13] rfl)
  refine wp_exit ?_
  refine k11 _ _ ?_
  refine sO H <| sr 1 rfl <| sd (does_add rfl rfl (by unfold i64ok; omega)) <| sr 1 rfl <| sE ?_;clear H a;intro a H
  exact k8 (g1 - 1) (i + 1) a _ (by omega) (⟨by omega, by omega, ap_row2 (by omega) hbe hp.2.2.2⟩) (S.sel [0] rfl rfl) (H.keep [13, 1, 2, 3, 4] rfl)
 refine wp_exit ?_
 refine k6 _ _ ?_
 replace H := H.keep [] rfl
 refine sS H fun K21 k21=>sr 4 rfl <| sE ?_;clear H a;intro a H
 refine k21 _ ?_;clear k21 K21
 refine wp_ret ?_
 refine ret4 (fn := Try.f18) rfl H rfl rfl rfl rfl ?_
 exact ⟨.inr ⟨hc1, .inr ⟨fun i' k' h1 h2 => hbe i' k' (by omega) h1 h2, rfl⟩⟩, (S.sel [] rfl rfl)⟩

theorem ref_Copy (pl : Int) (ps : List Psg) (PA : Option Addr) (pc : Nat) (xs : List Int) (XA : Option Addr) (xc : Nat) (w : World) (hps : InS w noF 7 PA ps.length (pcell ps)) (hpn : ps.length ≤ 9223372036854775807) (hxs : InS w noF 1 XA xs.length (icl xs)) (hxn : xs.length ≤ 9223372036854775807) (hps2 : 56 * ps.length ≤ 140737488355328) (hxs2 : 8 * xs.length ≤ 140737488355328) :
    Calls Try.prog 17 [.agg [.int .i64 pl, .slice PA ps.length pc, .slice XA xs.length xc].toArray].toArray w (Ret (fun u w' => ∃ A c B d, u = .agg [.int .i64 pl, .slice A ps.length c, .slice B xs.length d].toArray ∧ St w noF [ownM 45 7 A ps.length c (pcell ps), ownM 3 1 B xs.length d (icl xs)] w')) := by
 refine enter Try.func17 rfl Try.ntmps17 rfl (fun a H => ?_)
 have S := St.start w
 refine seq_list fun K1 k1 => ?_
 refine list_box H rfl S rfl rfl ?_;clear H a S;intro b1 _ a hb1 hbw1 S H
 refine list_alloc H rfl S ze_25 ?_;clear H a S;intro b2 _ a hb2 hbw2 S H
 refine k1 _ _ ?_;clear k1 K1
 replace H := H.keep [1, 2] rfl
 replace S := S.drew
 refine seq_wt 11 (.q 0 (.q 1 (.q 3 (.q 4 (.q 7 (.q 8 (.b2 2 (.b2 5 (.e 6 (.e 9 (.q 10 (.e 11 .nil)))) 6 (.e 5 (.e 9 (.q 10 (.e 11 .nil))))) 6 (.e 2 (.e 5 (.e 9 (.q 10 (.e 11 .nil)))))))))))) (by kernel_rfl) (by kernel_rfl) (S.sel [1] rfl rfl) fun K2 k2 => ?_
 refine wt_does H rfl rfl (fun _ S => (does_field fo_25_0 rfl)) ?_;clear H a;intro a H
 refine wt_does H rfl rfl (fun _ S => does_load one_3 rfl (boxM.rd S (i := 0) rfl rfl)) ?_;clear H a;intro a H
 refine wt_does H rfl rfl (fun _ S => (does_field fo_25_1 rfl)) ?_;clear H a;intro a H
 refine wt_does H rfl rfl (fun _ S => does_load one_22 rfl (boxM.rd S (i := 0) rfl rfl)) ?_;clear H a;intro a H
 refine wt_does H rfl rfl (fun _ S => (does_field fo_25_2 rfl)) ?_;clear H a;intro a H
 refine wt_does H rfl rfl (fun _ S => does_load one_23 rfl (boxM.rd S (i := 0) rfl rfl)) ?_;clear H a;intro a H
 refine wt_b2 rfl rfl ?_ ?_
 ·skip
  refine list_build0 H rfl S sl_22 sz_45 (pcell ps) ?_;clear H a S;intro A1 _ a S H
  refine wpList_nil (And.intro (Or.inr (S.sel [2] rfl rfl)) ?_)
  refine wt_b2 rfl rfl ?_ ?_
  ·skip
   refine list_append H rfl S sl_22 sz_45 ze_45 by_45 rfl rfl (i := 0) rfl rfl rfl ((hps.now S)) (pcell_one ps) (by omega) (by omega) ?_;clear H a S;intro A2 c2 _ a S H
   rw [Nat.zero_add] at H
   replace S := S.recell (i := 0) (n := ps.length) (cell' := pcell ps) (by simp only [Nat.zero_add]; rfl) (fun k j hk hj => by unfold capp; rw [if_neg (by omega)]; rfl)
   refine wpList_nil (And.intro (Or.inr (S.sel [2] rfl rfl)) ?_)
   refine wt_eff rfl ?_
   refine list_build0 H rfl S sl_23 sz_3 (icl xs) ?_;clear H a S;intro A3 _ a S H
   refine wpList_nil (And.intro (Or.inr (S.sel [3] rfl rfl)) ?_)
   refine wt_eff rfl ?_
   refine list_append H rfl S sl_23 sz_3 ze_3 by_3 rfl rfl (i := 0) rfl rfl rfl ((hxs.now S)) (fun _ _ _ _ => rfl) (by omega) (by omega) ?_;clear H a S;intro A4 c4 _ a S H
   rw [Nat.zero_add] at H
   replace S := S.recell (i := 0) (n := xs.length) (cell' := icl xs) (by simp only [Nat.zero_add]; rfl) (fun k j hk hj => by unfold capp; rw [if_neg (by omega)]; rfl)
   refine wpList_nil (And.intro (Or.inr (S.sel [3] rfl rfl)) ?_)
   refine wt_does H rfl rfl (fun _ S => does_build bt_25 rfl rfl) ?_;clear H a;intro a H
   refine wt_eff rfl ?_
   refine list_store H S (i := 2) rfl rfl rfl rfl sz_25 rfl rfl ?_
   clear H a S;intro _ a S H
   refine wpList_nil (And.intro (Or.inl rfl) ?_)
   refine wt_nil ?_
   refine k2 _ _ ?_
   clear k2 K2
   refine wp_ret ?_
   refine retA (fn := Try.f17) rfl H rfl agg_25 (by exact sz_25) (boxAgg S (i := 2) rfl) ?_
   exact ⟨_, _, _, _, rfl, (S.sel [1, 0] rfl rfl)⟩
  ·skip
   refine list_build0 H rfl S sl_23 sz_3 (icl xs) ?_;clear H a S;intro A5 _ a S H
   refine wpList_nil (And.intro (Or.inr (S.sel [3] rfl rfl)) ?_)
   refine wt_eff rfl ?_
   refine list_append H rfl S sl_22 sz_45 ze_45 by_45 rfl rfl (i := 1) rfl rfl rfl ((hps.now S)) (pcell_one ps) (by omega) (by omega) ?_;clear H a S;intro A6 c6 _ a S H
   rw [Nat.zero_add] at H
   replace S := S.recell (i := 1) (n := ps.length) (cell' := pcell ps) (by simp only [Nat.zero_add]; rfl) (fun k j hk hj => by unfold capp; rw [if_neg (by omega)]; rfl)
   refine wpList_nil (And.intro (Or.inr (S.sel [3] rfl rfl)) ?_)
   refine wt_eff rfl ?_
   refine list_append H rfl S sl_23 sz_3 ze_3 by_3 rfl rfl (i := 0) rfl rfl rfl ((hxs.now S)) (fun _ _ _ _ => rfl) (by omega) (by omega) ?_;clear H a S;intro A7 c7 _ a S H
   rw [Nat.zero_add] at H
   replace S := S.recell (i := 0) (n := xs.length) (cell' := icl xs) (by simp only [Nat.zero_add]; rfl) (fun k j hk hj => by unfold capp; rw [if_neg (by omega)]; rfl)
   refine wpList_nil (And.intro (Or.inr (S.sel [3] rfl rfl)) ?_)
   refine wt_does H rfl rfl (fun _ S => does_build bt_25 rfl rfl) ?_;clear H a;intro a H
   refine wt_eff rfl ?_
   refine list_store H S (i := 2) rfl rfl rfl rfl sz_25 rfl rfl ?_
   clear H a S;intro _ a S H
   refine wpList_nil (And.intro (Or.inl rfl) ?_)
   refine wt_nil ?_
   refine k2 _ _ ?_
   clear k2 K2
   refine wp_ret ?_
   refine retA (fn := Try.f17) rfl H rfl agg_25 (by exact sz_25) (boxAgg S (i := 2) rfl) ?_
   exact ⟨_, _, _, _, rfl, (S.sel [1, 0] rfl rfl)⟩
 ·skip
  refine list_build0 H rfl S sl_23 sz_3 (icl xs) ?_;clear H a S;intro A8 _ a S H
  refine wpList_nil (And.intro (Or.inr (S.sel [2] rfl rfl)) ?_)
  refine wt_eff rfl ?_
  refine list_build0 H rfl S sl_22 sz_45 (pcell ps) ?_;clear H a S;intro A9 _ a S H
  refine wpList_nil (And.intro (Or.inr (S.sel [3] rfl rfl)) ?_)
  refine wt_eff rfl ?_
  refine list_append H rfl S sl_22 sz_45 ze_45 by_45 rfl rfl (i := 0) rfl rfl rfl ((hps.now S)) (pcell_one ps) (by omega) (by omega) ?_;clear H a S;intro A10 c10 _ a S H
  rw [Nat.zero_add] at H
  replace S := S.recell (i := 0) (n := ps.length) (cell' := pcell ps) (by simp only [Nat.zero_add]; rfl) (fun k j hk hj => by unfold capp; rw [if_neg (by omega)]; rfl)
  refine wpList_nil (And.intro (Or.inr (S.sel [3] rfl rfl)) ?_)
  refine wt_eff rfl ?_
  refine list_append H rfl S sl_23 sz_3 ze_3 by_3 rfl rfl (i := 1) rfl rfl rfl ((hxs.now S)) (fun _ _ _ _ => rfl) (by omega) (by omega) ?_;clear H a S;intro A11 c11 _ a S H
  rw [Nat.zero_add] at H
  replace S := S.recell (i := 1) (n := xs.length) (cell' := icl xs) (by simp only [Nat.zero_add]; rfl) (fun k j hk hj => by unfold capp; rw [if_neg (by omega)]; rfl)
  refine wpList_nil (And.intro (Or.inr (S.sel [3] rfl rfl)) ?_)
  refine wt_does H rfl rfl (fun _ S => does_build bt_25 rfl rfl) ?_;clear H a;intro a H
  refine wt_eff rfl ?_
  refine list_store H S (i := 2) rfl rfl rfl rfl sz_25 rfl rfl ?_
  clear H a S;intro _ a S H
  refine wpList_nil (And.intro (Or.inl rfl) ?_)
  refine wt_nil ?_
  refine k2 _ _ ?_
  clear k2 K2
  refine wp_ret ?_
  refine retA (fn := Try.f17) rfl H rfl agg_25 (by exact sz_25) (boxAgg S (i := 2) rfl) ?_
  exact ⟨_, _, _, _, rfl, (S.sel [0, 1] rfl rfl)⟩

theorem law_same (x y : List Int) (AA BA : Option Addr) (ac bc : Nat) (w : World) (ha : InS w noF 1 AA x.length (icl x)) (hb : InS w noF 1 BA y.length (icl y)) (han : x.length ≤ 9223372036854775807) (hbn : y.length ≤ 9223372036854775807) :
    Calls Try.prog 23 [.slice AA x.length ac, .slice BA y.length bc].toArray w (Ret (fun u w' => u = .bool (sameI x y) ∧ St w noF [] w')) := by
 refine enter Try.func23 rfl Try.ntmps23 rfl (fun a H => ?_)
 have S := St.start w
 refine sS H fun K1 k1=>sr 1 rfl <| sE ?_;clear H a;intro a H
 refine k1 _ ?_;clear k1 K1
 refine wp_seq_k fun K2 k2 => ?_
 refine sS H fun K3 k3=>sr 1 rfl <| sL sl_23 rfl <| sr 1 rfl <| sL sl_23 rfl <| sr 1 rfl <| sE ?_;clear H a;intro a H
 refine k3 _ ?_;clear k3 K3
 refine condN H rfl (fun hc1 => ?_) (fun hc1 => ?_)
 ·skip
  refine sS H fun K4 k4=>sr 1 rfl <| sE ?_;clear H a;intro a H
  refine k4 _ ?_;clear k4 K4
  refine wp_ret ?_
  refine ret1 (fn := Try.f23) rfl H rfl ?_
  exact ⟨by rw [same_len (by omega)], (S.sel [] rfl rfl)⟩
 refine wp_skip ?_
 refine k2 _ _ ?_
 refine wp_seq_k fun K5 k5 => ?_
 refine sS H fun K6 k6=>sr 1 rfl <| sE ?_;clear H a;intro a H
 refine k6 _ ?_;clear k6 K6
 refine wp_block ?_
 refine loop_st (X := Nat) (R0 := _) [0, 1] H rfl (fun k => [(5, .int .i64 (k : Int))]) (fun k => []) (fun g k => k ≤ x.length ∧ g + k = x.length ∧ ∀ q, q < k → x.getD q 0 = y.getD q 0) (x.length) 0 ?_ (S.sel [] rfl rfl) (H.keep [5, 0, 1] rfl) ?_
 · exact ⟨by omega, by omega, fun q hq => absurd hq (Nat.not_lt_zero q)⟩
 clear H S a
 intro g1 x1 a w1 hp S H K7 k7
 obtain ⟨k, rfl⟩ : ∃ y, y = x1 := ⟨_, rfl⟩
 refine wp_seq_k fun K8 k8 => ?_
 refine sS H fun K9 k9=>sr 2 rfl <| sL sl_23 rfl <| sr 1 rfl <| sE ?_;clear H a;intro a H
 refine k9 _ ?_;clear k9 K9
 refine condL H rfl (fun hc2 => ?_) (fun hc2 => ?_)
 ·skip
  refine wp_skip ?_
  refine k8 _ _ ?_
  refine wp_seq_k fun K10 k10 => ?_
  refine wp_block ?_
  replace H := H.keep [0, 1, 5] rfl
  replace S := S.drew
  refine sD H fun K11 k11=>sr 2 rfl <| si sl_23 sz_3 rfl rfl (ha.adr (by omega)) (by omega) <| slm one_3 rfl (ha.rd S (by omega) (by omega)) <| sr 2 rfl <| si sl_23 sz_3 rfl rfl (hb.adr (by omega)) (by omega) <| slm one_3 rfl (hb.rd S (by omega) (by omega)) <| sr 1 rfl <| sE ?_;clear H a;intro a H
  refine k11 _ ?_;clear k11 K11
  refine condN H rfl (fun hc3 => ?_) (fun hc3 => ?_)
  ·skip
   replace H := H.keep [] rfl
   refine sS H fun K12 k12=>sr 1 rfl <| sE ?_;clear H a;intro a H
   refine k12 _ ?_;clear k12 K12
   refine wp_ret ?_
   refine ret1 (fn := Try.f23) rfl H rfl ?_
   exact ⟨by rw [same_at (k := k) (by omega)], (S.sel [] rfl rfl)⟩
  refine wp_skip ?_
  refine k10 _ _ ?_
  refine sO H <| sr 1 rfl <| sd (does_add rfl rfl (by unfold i64ok; omega)) <| sr 1 rfl <| sE ?_;clear H a;intro a H
  exact k7 (g1 - 1) (k + 1) a _ (by omega) (⟨by omega, by omega, eq_next hp.2.2 (by omega)⟩) (S.sel [] rfl rfl) (H.keep [5, 0, 1] rfl)
 refine wp_exit ?_
 refine k5 _ _ ?_
 refine sS H fun K14 k14=>sr 1 rfl <| sE ?_;clear H a;intro a H
 refine k14 _ ?_;clear k14 K14
 refine wp_ret ?_
 refine ret1 (fn := Try.f23) rfl H rfl ?_
 exact ⟨by rw [same_all (by omega) (fun q hq => hp.2.2 q (by omega))], (S.sel [] rfl rfl)⟩

end Go.Proofs.Ytlmddkekeoebcaa
