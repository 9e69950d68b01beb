/- WyN. Printed by gen.py. -/
import Derived.Test.YtdepakimbagonaaWyI
import Derived.Test.YtdepakimbagonaaPlg
namespace Go.Proofs.Ytdepakimbagonaa
open Go.RowKit
set_option linter.unusedVariables false
set_option linter.unusedSimpArgs false
set_option maxRecDepth 100000
set_option maxHeartbeats 4000000


theorem plRow_len {N : Net} {r : RM} {mv : Nat → Nat → Mv} {i : Nat} : ∀ j, (plRow N r mv i j).length ≤ j := by
  intro j
  induction j with
  | zero => exact Nat.le_refl 0
  | succ j ih => rw [plRow, List.length_append]; unfold plOne; split <;> simp <;> omega
theorem plAll_len {N : Net} {r : RM} {mv : Nat → Nat → Mv} {B k : Nat} (h : ∀ i, i < k → N.n i ≤ B) : ∀ i, i ≤ k → (plAll N r mv i).length ≤ i * B := by
  intro i
  induction i with
  | zero => intro _; exact Nat.zero_le _
  | succ i ih =>
    intro hi
    rw [plAll, List.length_append, Nat.add_mul]
    have h1 := ih (by omega)
    have h2 := plRow_len (N := N) (r := r) (mv := mv) (i := i) (N.n i)
    have h3 := h i (by omega)
    omega
theorem pl_yes {N : Net} {r : RM} {mv : Nat → Nat → Mv} {i j : Nat} {l0 l : List Mv} (h : l = l0 ++ plRow N r mv i j) (h1 : 0 ≤ (mv i j).pas) (h2 : 0 < r (N.to i j) (N.back i j)) : l ++ [⟨(mv i j).pas, (mv i j).fr, (mv i j).at_, r (N.to i j) (N.back i j)⟩] = l0 ++ plRow N r mv i (j + 1) := by
  rw [plRow, plOne, if_pos ⟨h1, h2⟩, h, List.append_assoc]
theorem pl_no {N : Net} {r : RM} {mv : Nat → Nat → Mv} {i j : Nat} {l0 l : List Mv} (h : l = l0 ++ plRow N r mv i j) (h1 : ¬ (0 ≤ (mv i j).pas ∧ 0 < r (N.to i j) (N.back i j))) : l = l0 ++ plRow N r mv i (j + 1) := by
  rw [plRow, plOne, if_neg h1, h, List.append_nil]
theorem mv_snoc {l : List Mv} {m : Mv} {cell' : Nat → Nat → Value} (h0 : cell' 0 0 = .int .i64 m.pas) (h1 : cell' 0 1 = .int .i64 m.fr) (h2 : cell' 0 2 = .int .i64 m.at_) (h3 : cell' 0 3 = .int .i64 m.many) :
    ∀ k j, k < l.length + 1 → j < 4 → capp l.length (mvcell l) cell' k j = mvcell (l ++ [m]) k j := by
  intro k j hk hj
  unfold capp mvcell
  rw [getD_snoc']
  by_cases h : k < l.length
  · rw [if_pos h, if_pos h]
  · have e : k = l.length := by omega
    subst e
    rw [if_neg h, if_neg h, if_pos rfl, Nat.sub_self]
    match j, hj with
    | 0, _ => exact h0
    | 1, _ => exact h1
    | 2, _ => exact h2
    | 3, _ => exact h3
theorem w8four {p : Nat → Prop} (h0 : p 0) (h1 : p 1) (h2 : p 2) (h3 : p 3) : ∀ j, j < 4 → p j := by
  intro j hj
  match j, hj with
  | 0, _ => exact h0
  | 1, _ => exact h1
  | 2, _ => exact h2
  | 3, _ => exact h3
theorem lay_n {P T : Nat} {ps : List Psg} {xs : List Int} {out : Int} {pe : List Int} (V : StV P ps xs) (hT : T ≤ 60) : ∀ i, (layN P T pe xs (hds out xs ps)).n i ≤ 4148 := fun i => by
  have h1 := joins_len (jAll P T pe xs (hds out xs ps)) (fun j hj => (jAll_J V j hj).1) i
  have h2 : (jAll P T pe xs (hds out xs ps)).length ≤ 4148 := by
    unfold jAll
    rw [List.length_append]
    have h3 := jPlaces_len (P := P) (T := T) (pe := pe) (xs := xs) P
    have h4 := jHeads_len (P := P) (T := T) (hs := hds out xs ps) (hds out xs ps).length
    have h5 := hds_le (out := out) (xs := xs) (ps := ps) ps.length
    have h6 := V.size
    have h7 : (hds out xs ps).length ≤ 48 := by show (hdsTo out xs ps ps.length).length ≤ _; omega
    have h8 : (hds out xs ps).length * (T + 1) ≤ 48 * 61 := Nat.mul_le_mul h7 (by omega)
    have h9 : P * (2 * T + 2) ≤ 10 * 122 := Nat.mul_le_mul (by omega) (by omega)
    omega
  exact Nat.le_trans h1 h2


theorem ways_Plan (pl : Int) (ps : List Psg) (PA : Option Addr) (pc : Nat) (xs : List Int) (XA : Option Addr) (xc : Nat) (out : Int) (pe : List Int) (BA : Option Addr) (bc : Nat) (T0 : Int) (w : World) (hps : InS w noF 7 PA ps.length (pcell ps)) (hpn : ps.length ≤ 9223372036854775807) (hxs : InS w noF 1 XA xs.length (icl xs)) (hxn : xs.length ≤ 9223372036854775807) (hpe : InS w noF 1 BA pe.length (icl pe)) (hpen : pe.length ≤ 9223372036854775807) :
    Calls Try.prog 20 [.agg [.int .i64 pl, .slice PA ps.length pc, .slice XA xs.length xc].toArray, .int .i64 out, .slice BA pe.length bc, .int .i64 T0].toArray w (Ret (fun u w' => (leaveE pl ps xs out pe T0 ≠ 0 ∧ u = .tuple #[.slice none 0 0, .int .i64 (leaveE pl ps xs out pe T0)] ∧ St w noF [] w') ∨ (leaveE pl ps xs out pe T0 = 0 ∧ ∃ l A c, (u = .tuple #[.slice A (List.length l) c, .int .i64 0] ∧ (planB ps xs out pe l pl.toNat = true ∧ outN ps xs out pe l pl.toNat T0.toNat = mfv pl.toNat T0.toNat pe xs (hds out xs ps) ∧ l.length ≤ 2928 ∧ ∀ k, k < l.length → (l.getD k Mv.zero).at_ ≤ T0)) ∧ St w noF [ownM 70 4 A l.length c (mvcell l)] w'))) := by
 refine enter Try.func20 rfl Try.ntmps20 rfl (fun a H => ?_)
 have S := St.start w
 refine seq_list fun K1 k1 => ?_
 refine list_box H rfl S rfl rfl ?_;clear H a S;intro b4 _ a hb4 hbw4 S H
 refine ls 2 H <| sr 2 rfl <| sE ?_;clear H a;intro a H
 refine k1 _ _ ?_;clear k1 K1
 refine wp_seq_k fun K2 k2 => ?_
 refine seq_list fun K3 k3 => ?_
 refine ls 4 H <| sd ((does_loadBox agg_49 sz_49 rfl S (i := 0) rfl rfl)) <| sr 3 rfl <| sE ?_;clear H a;intro a H
 refine list_call H rfl rfl Try.func42 rfl rfl (ways_leaving pl ps PA pc xs XA xc out pe BA bc T0 _ (hps.now S) hpn (hxs.now S) hxn (hpe.now S) hpen) ?_;clear H a
 rintro _ _ a ⟨rfl, S2⟩ H
 replace S := S.call S2;clear S2
 refine ls 1 H <| sr 1 rfl <| sE ?_;clear H a;intro a H
 refine k3 _ _ ?_;clear k3 K3
 replace H := H.keep [1, 2, 3, 4, 10] rfl
 refine sS H fun K4 k4=>sr 2 rfl <| sE ?_;clear H a;intro a H
 refine k4 _ ?_;clear k4 K4
 refine condN H rfl (fun hc1 => ?_) (fun hc1 => ?_)
 ·skip
  refine sS H fun K5 k5=>sr 3 rfl <| sE ?_;clear H a;intro a H
  refine k5 _ ?_;clear k5 K5
  refine wp_ret ?_
  refine ret2 (fn := Try.f20) rfl H rfl rfl ?_
  exact .inl ⟨hc1, rfl, (S.sel [] rfl rfl)⟩
 obtain ⟨hst, hou, hcr, hti⟩ := leaveE_ok hc1
 have hV0 := st_valid hst
 obtain ⟨P, rfl⟩ : ∃ P : Nat, pl = P := ⟨pl.toNat, by have := hV0.size; omega⟩
 have hV := hV0
 obtain ⟨hpp, hpl'⟩ := crowd_ok hcr
 have hpl : pe.length = P := by omega
 obtain ⟨T, rfl⟩ : ∃ T : Nat, T0 = T := ⟨T0.toNat, by omega⟩
 have hT : T ≤ 60 := by omega
 have hO9 := lay_ok (T := T) (out := out) hV hpp
 have hC : P * (T + 1) ≤ 10 * 61 := Nat.mul_le_mul (by have := hV.size; omega) (by omega)
 have hP10 := hV.size
 have hkk : (layN P T pe xs (hds out xs ps)).k = P * (T + 1) + 2 := rfl
 have hnn := lay_n (T := T) (pe := pe) (out := out) hV hT
 refine wp_skip ?_
 refine k2 _ _ ?_
 replace H := H.keep [1, 2, 3, 4] rfl
 refine seq_list fun K6 k6 => ?_
 refine ls 4 H <| sd ((does_loadBox agg_49 sz_49 rfl S (i := 0) rfl rfl)) <| sr 3 rfl <| sE ?_;clear H a;intro a H
 refine list_call H rfl rfl Try.func43 rfl rfl (ways_lay2 P T ps PA pc xs XA xc out pe BA bc _ (hps.now S) hpn (hxs.now S) hxn (hpe.now S) hpl hV hou hpp hT) ?_;clear H a
 rintro _ _ a ⟨b31, EA, A', c', rfl, S2⟩ H
 replace S := S.call S2;clear S2
 refine ls 1 H <| sr 1 rfl <| sE ?_;clear H a;intro a H
 refine k6 _ _ ?_;clear k6 K6
 refine seq_list fun K7 k7 => ?_
 refine ls 1 H <| sr 1 rfl <| sE ?_;clear H a;intro a H
 have S1 := (S.sel [0, 1, 2] rfl rfl)
 refine list_call H rfl rfl Try.func44 rfl rfl (net_fill (layN P T pe xs (hds out xs ps)) (layT P T pe xs (hds out xs ps)).room (layT P T pe xs (hds out xs ps)).mv b31 (P : Int) (T : Int) _ _ EA A' c' (P * (T + 1)) ((P * (T + 1)) + 1) _ _ S1.startR hO9.wf hO9.ok (by show _ < P * (T + 1) + 2; omega) (by show _ < P * (T + 1) + 2; omega) (by omega) (by show P * (T + 1) + 2 ≤ _; omega) (by have := hO9.beg; have := hV.size; omega)) ?_;clear H a
 rintro _ _ a ⟨v, r, rfl, hF, h0v, ⟨L, hLv, hLx⟩, S2⟩ H
 replace S := (S.sel [0, 1, 2, 3] rfl rfl).callR (M := [_, _, _]) S2; clear S1 S2
 refine k7 _ _ ?_;clear k7 K7
 refine sS H fun K8 k8=>sr 1 rfl <| sE ?_;clear H a;intro a H
 refine k8 _ ?_;clear k8 K8
 refine wp_seq_k fun K9 k9 => ?_
 replace H := H.keep [11, 12] rfl
 refine sS H fun K10 k10=>sr 2 rfl <| sK ?_;clear H a;intro a H
 refine still_does H rfl ((by first | (exact does_field_pt fo_114_2 rfl; trace "ALT ways_Plan 7.2.1 0") | (exact does_field fo_114_2 rfl; trace "ALT ways_Plan 7.2.1 1"))) ?_;clear H a;intro a H
 refine sF H <| sl S 0 one_112 rfl rfl rfl <| sL sl_112 rfl <| sr 1 rfl <| sE ?_;clear H a;intro a H
 refine k10 _ ?_;clear k10 K10
 refine wp_block ?_
 replace S := S.newNil 70 4 (mvcell [])
 refine loop_st (X := Nat × List Mv × Option Addr × Nat) (R0 := _) [11, 36, 37] H rfl (fun ⟨i, l, A9, c9⟩ => [(12, .slice A9 l.length c9), (38, .int .i64 (i : Int))]) (fun ⟨i, l, A9, c9⟩ => [ownM 70 4 A9 l.length c9 (mvcell l)]) (fun g ⟨i, l, A9, c9⟩ => i ≤ (layN P T pe xs (hds out xs ps)).k ∧ g + i = (layN P T pe xs (hds out xs ps)).k ∧ l = plAll (layN P T pe xs (hds out xs ps)) r (layT P T pe xs (hds out xs ps)).mv i) ((layN P T pe xs (hds out xs ps)).k) (0, [], none, 0) ?_ (S.sel [0, 1, 2, 3, 4] rfl rfl) (H.keep [12, 38, 11, 36, 37] rfl) ?_
 · exact ⟨by omega, by omega, rfl⟩
 clear H S a
 intro g1 x1 a w1 hp S H K11 k11
 obtain ⟨i, l, A9, c9⟩ := x1
 dsimp only at hp S H
 obtain ⟨hil, hgi, hW⟩ := hp
 have hln := plAll_len (r := r) (mv := (layT P T pe xs (hds out xs ps)).mv) (k := (layN P T pe xs (hds out xs ps)).k) (fun i _ => hnn i) i hil
 rw [← hW] at hln
 have hni := hnn i
 refine sS H fun K12 k12=>sr 1 rfl <| sE ?_;clear H a;intro a H
 refine k12 _ ?_;clear k12 K12
 refine wp_seq_k fun K13 k13 => ?_
 refine condL H rfl (fun hc2 => ?_) (fun hc2 => ?_)
 ·skip
  refine wp_skip ?_
  refine k13 _ _ ?_
  refine wp_seq_k fun K14 k14 => ?_
  refine wp_block ?_
  have hik : i < (layN P T pe xs (hds out xs ps)).k := by omega
  refine sS H fun K15 k15=>si sl_112 sz_115 rfl rfl (ownM.adr S (i := 2) rfl (by omega)) (by omega) <| slm one_115 rfl (ownM.rd S (i := 2) rfl (by omega) (by omega)) <| sr 1 rfl <| sE ?_;clear H a;intro a H
  refine k15 _ ?_;clear k15 K15
  refine sS H fun K16 k16=>sr 1 rfl <| sL sl_115 rfl <| sr 1 rfl <| sE ?_;clear H a;intro a H
  refine k16 _ ?_;clear k16 K16
  refine wp_block ?_
  refine loop_st (X := Nat × List Mv × Option Addr × Nat) (R0 := _) [11, 36, 37, 38, 42, 43] H rfl (fun ⟨j, l2, A8, c8⟩ => [(12, .slice A8 l2.length c8), (44, .int .i64 (j : Int))]) (fun ⟨j, l2, A8, c8⟩ => [ownM 70 4 A8 l2.length c8 (mvcell l2)]) (fun g ⟨j, l2, A8, c8⟩ => j ≤ (layN P T pe xs (hds out xs ps)).n i ∧ g + j = (layN P T pe xs (hds out xs ps)).n i ∧ l2 = l ++ plRow (layN P T pe xs (hds out xs ps)) r (layT P T pe xs (hds out xs ps)).mv i j) ((layN P T pe xs (hds out xs ps)).n i) (0, l, A9, c9) ?_ (S.sel [0, 1, 2, 3, 4] rfl rfl) (H.keep [12, 44, 11, 36, 37, 38, 42, 43] rfl) ?_
  · exact ⟨by omega, by omega, (List.append_nil _).symm⟩
  clear H S a
  intro g2 x2 a w2 hp S H K17 k17
  obtain ⟨j, l2, A8, c8⟩ := x2
  dsimp only at hp S H
  obtain ⟨hjl, hgj, hW2⟩ := hp
  have hln2 : l2.length ≤ l.length + j := by rw [hW2, List.length_append]; have := plRow_len (N := (layN P T pe xs (hds out xs ps))) (r := r) (mv := (layT P T pe xs (hds out xs ps)).mv) (i := i) j; omega
  refine sS H fun K18 k18=>sr 1 rfl <| sE ?_;clear H a;intro a H
  refine k18 _ ?_;clear k18 K18
  refine wp_seq_k fun K19 k19 => ?_
  refine condL H rfl (fun hc3 => ?_) (fun hc3 => ?_)
  ·skip
   refine wp_skip ?_
   refine k19 _ _ ?_
   refine wp_seq_k fun K20 k20 => ?_
   refine wp_block ?_
   refine seq_list fun K21 k21 => ?_
   refine ls 1 H <| si sl_115 sz_117 rfl rfl (ragM.adr S (i := 3) rfl hik (by omega)) (by omega) <| sE ?_;clear H a;intro a H
   refine list_does H rfl ((by first | (exact does_loadOwn agg_117 sz_117 rfl (ragM.pull S (i := 3) rfl hik) (i := 0) rfl (by omega) (by omega); trace "ALT ways_Plan 12.1.1 0") | (exact does_loadBox agg_117 sz_117 rfl S (i := 0) rfl rfl; trace "ALT ways_Plan 12.1.1 1") | (exact does_loadBox agg_117 sz_117 rfl S (i := 1) rfl rfl; trace "ALT ways_Plan 12.1.1 2") | (exact does_loadBox agg_117 sz_117 rfl S (i := 2) rfl rfl; trace "ALT ways_Plan 12.1.1 3") | (exact does_loadBox agg_117 sz_117 rfl S (i := 3) rfl rfl; trace "ALT ways_Plan 12.1.1 4") | (exact does_loadBox agg_117 sz_117 rfl S (i := 4) rfl rfl; trace "ALT ways_Plan 12.1.1 5"))) ?_;clear H a;intro a H
   refine list_alloc H rfl S ze_117 ?_;clear H a S;intro b16 _ a hb16 hbw16 S H
   first | (refine list_store H S (i := 0) rfl rfl rfl rfl sz_117 rfl rfl ?_; trace "ALT ways_Plan 12.3.1 0") | (refine list_store H S (i := 1) rfl rfl rfl rfl sz_117 rfl rfl ?_; trace "ALT ways_Plan 12.3.1 1") | (refine list_store H S (i := 2) rfl rfl rfl rfl sz_117 rfl rfl ?_; trace "ALT ways_Plan 12.3.1 2") | (refine list_store H S (i := 3) rfl rfl rfl rfl sz_117 rfl rfl ?_; trace "ALT ways_Plan 12.3.1 3") | (refine list_store H S (i := 4) rfl rfl rfl rfl sz_117 rfl rfl ?_; trace "ALT ways_Plan 12.3.1 4") | (refine list_store H S (i := 5) rfl rfl rfl rfl sz_117 rfl rfl ?_; trace "ALT ways_Plan 12.3.1 5") | (refine list_store_own H S (i := 0) rfl rfl rfl (by omega) (by omega) sz_117 rfl ?_; trace "ALT ways_Plan 12.3.1 6") | (refine list_store_own H S (i := 1) rfl rfl rfl (by omega) (by omega) sz_117 rfl ?_; trace "ALT ways_Plan 12.3.1 7") | (refine list_store_own H S (i := 2) rfl rfl rfl (by omega) (by omega) sz_117 rfl ?_; trace "ALT ways_Plan 12.3.1 8") | (refine list_store_own H S (i := 3) rfl rfl rfl (by omega) (by omega) sz_117 rfl ?_; trace "ALT ways_Plan 12.3.1 9") | (refine list_store_own H S (i := 4) rfl rfl rfl (by omega) (by omega) sz_117 rfl ?_; trace "ALT ways_Plan 12.3.1 10") | (refine list_store_own H S (i := 5) rfl rfl rfl (by omega) (by omega) sz_117 rfl ?_; trace "ALT ways_Plan 12.3.1 11")
   clear H a S;intro _ a S H
   refine k21 _ _ ?_;clear k21 K21
   refine seq_list fun K22 k22 => ?_
   refine list_does H rfl ((by first | (exact does_field_pt fo_117_3 rfl; trace "ALT ways_Plan 13.0.1 0") | (exact does_field fo_117_3 rfl; trace "ALT ways_Plan 13.0.1 1"))) ?_;clear H a;intro a H
   refine list_does H rfl ((by first | (exact does_loadOwn agg_70 sz_70 rfl (ragM.pull S (i := 4) rfl hik) (i := 0) rfl (by omega) (by omega); trace "ALT ways_Plan 13.1.1 0") | (exact does_loadBox agg_70 sz_70 rfl S (i := 0) rfl rfl; trace "ALT ways_Plan 13.1.1 1") | (exact does_loadBox agg_70 sz_70 rfl S (i := 1) rfl rfl; trace "ALT ways_Plan 13.1.1 2") | (exact does_loadBox agg_70 sz_70 rfl S (i := 2) rfl rfl; trace "ALT ways_Plan 13.1.1 3") | (exact does_loadBox agg_70 sz_70 rfl S (i := 3) rfl rfl; trace "ALT ways_Plan 13.1.1 4") | (exact does_loadBox agg_70 sz_70 rfl S (i := 4) rfl rfl; trace "ALT ways_Plan 13.1.1 5") | (exact does_loadBox agg_70 sz_70 rfl S (i := 5) rfl rfl; trace "ALT ways_Plan 13.1.1 6"))) ?_;clear H a;intro a H
   refine list_alloc H rfl S ze_70 ?_;clear H a S;intro b17 _ a hb17 hbw17 S H
   first | (refine list_store H S (i := 0) rfl rfl rfl rfl sz_70 rfl rfl ?_; trace "ALT ways_Plan 13.3.1 0") | (refine list_store H S (i := 1) rfl rfl rfl rfl sz_70 rfl rfl ?_; trace "ALT ways_Plan 13.3.1 1") | (refine list_store H S (i := 2) rfl rfl rfl rfl sz_70 rfl rfl ?_; trace "ALT ways_Plan 13.3.1 2") | (refine list_store H S (i := 3) rfl rfl rfl rfl sz_70 rfl rfl ?_; trace "ALT ways_Plan 13.3.1 3") | (refine list_store H S (i := 4) rfl rfl rfl rfl sz_70 rfl rfl ?_; trace "ALT ways_Plan 13.3.1 4") | (refine list_store H S (i := 5) rfl rfl rfl rfl sz_70 rfl rfl ?_; trace "ALT ways_Plan 13.3.1 5") | (refine list_store H S (i := 6) rfl rfl rfl rfl sz_70 rfl rfl ?_; trace "ALT ways_Plan 13.3.1 6") | (refine list_store_own H S (i := 0) rfl rfl rfl (by omega) (by omega) sz_70 rfl ?_; trace "ALT ways_Plan 13.3.1 7") | (refine list_store_own H S (i := 1) rfl rfl rfl (by omega) (by omega) sz_70 rfl ?_; trace "ALT ways_Plan 13.3.1 8") | (refine list_store_own H S (i := 2) rfl rfl rfl (by omega) (by omega) sz_70 rfl ?_; trace "ALT ways_Plan 13.3.1 9") | (refine list_store_own H S (i := 3) rfl rfl rfl (by omega) (by omega) sz_70 rfl ?_; trace "ALT ways_Plan 13.3.1 10") | (refine list_store_own H S (i := 4) rfl rfl rfl (by omega) (by omega) sz_70 rfl ?_; trace "ALT ways_Plan 13.3.1 11") | (refine list_store_own H S (i := 5) rfl rfl rfl (by omega) (by omega) sz_70 rfl ?_; trace "ALT ways_Plan 13.3.1 12") | (refine list_store_own H S (i := 6) rfl rfl rfl (by omega) (by omega) sz_70 rfl ?_; trace "ALT ways_Plan 13.3.1 13")
   clear H a S;intro _ a S H
   refine k22 _ _ ?_;clear k22 K22
   replace H := H.keep [11, 12, 16, 17, 36, 37, 38, 42, 43, 44] rfl
   refine sS H fun K23 k23=>sK ?_;clear H a;intro a H
   refine still_does H rfl ((by first | (exact does_field_pt fo_70_0 rfl; trace "ALT ways_Plan 14.0.1 0") | (exact does_field fo_70_0 rfl; trace "ALT ways_Plan 14.0.1 1"))) ?_;clear H a;intro a H
   refine sF H <| sl S 0 one_3 rfl rfl rfl <| sr 1 rfl <| sE ?_;clear H a;intro a H
   refine k23 _ ?_;clear k23 K23
   refine condG H rfl (fun hc4 => ?_) (fun hc4 => ?_)
   ·skip
    have hto : (layN P T pe xs (hds out xs ps)).to i j < (layN P T pe xs (hds out xs ps)).k := hO9.wf.to_lt i hik j (by omega)
    have hbk : (layN P T pe xs (hds out xs ps)).back i j < (layN P T pe xs (hds out xs ps)).n ((layN P T pe xs (hds out xs ps)).to i j) := hO9.wf.bk_lt i hik j (by omega)
    have hnto := hnn ((layN P T pe xs (hds out xs ps)).to i j)
    replace H := H.keep [11, 12, 16, 17, 36, 37, 38, 42, 43, 44] rfl
    refine seq_tail 14 (by kernel_rfl) (by kernel_rfl) fun K24 k24 => ?_
    replace S := S.drew
    refine sF H <| sr 2 rfl <| sK ?_;clear H a;intro a H
    refine still_does H rfl ((by first | (exact does_field_pt fo_114_2 rfl; trace "ALT ways_Plan 15.2.1 0") | (exact does_field fo_114_2 rfl; trace "ALT ways_Plan 15.2.1 1"))) ?_;clear H a;intro a H
    refine sF H <| sl S 3 one_112 rfl rfl rfl <| sK ?_;clear H a;intro a H
    refine still_does H rfl ((by first | (exact does_field_pt fo_117_0 rfl; trace "ALT ways_Plan 15.4.1 0") | (exact does_field fo_117_0 rfl; trace "ALT ways_Plan 15.4.1 1"))) ?_;clear H a;intro a H
    refine sF H <| sl S 1 one_3 rfl rfl rfl <| si sl_112 sz_115 rfl rfl (ownM.adr S (i := 4) rfl (by omega)) (by omega) <| slm one_115 rfl (ownM.rd S (i := 4) rfl (by omega) (by omega)) <| sK ?_;clear H a;intro a H
    refine still_does H rfl ((by first | (exact does_field_pt fo_117_2 rfl; trace "ALT ways_Plan 15.8.1 0") | (exact does_field fo_117_2 rfl; trace "ALT ways_Plan 15.8.1 1"))) ?_;clear H a;intro a H
    refine sF H <| sl S 1 one_3 rfl rfl rfl <| si sl_115 sz_117 rfl rfl (ragM.adr S (i := 5) rfl hto (by omega)) (by omega) <| sK ?_;clear H a;intro a H
    refine still_does H rfl ((by first | (exact does_field_pt fo_117_1 rfl; trace "ALT ways_Plan 15.11.1 0") | (exact does_field fo_117_1 rfl; trace "ALT ways_Plan 15.11.1 1"))) ?_;clear H a;intro a H
    refine sF H <| slm one_3 rfl (ragM.rd S (i := 5) rfl hto hbk (by omega)) <| sK ?_;clear H a;intro a H
    refine still_does H rfl ((by first | (exact does_field_pt fo_70_3 rfl; trace "ALT ways_Plan 15.13.1 0") | (exact does_field fo_70_3 rfl; trace "ALT ways_Plan 15.13.1 1"))) ?_;clear H a;intro a H
    refine sF H <| sE ?_;clear H a;intro a H
    refine list_store H S (i := 0) rfl rfl rfl rfl sz_3 rfl rfl ?_
    clear H a S;intro _ a S H
    refine k24 _ _ ?_;clear k24 K24
    replace H := H.keep [11, 12, 17, 36, 37, 38, 42, 43, 44] rfl
    refine sS H fun K25 k25=>sK ?_;clear H a;intro a H
    refine still_does H rfl ((by first | (exact does_field_pt fo_70_3 rfl; trace "ALT ways_Plan 16.0.1 0") | (exact does_field fo_70_3 rfl; trace "ALT ways_Plan 16.0.1 1"))) ?_;clear H a;intro a H
    refine sF H <| sl S 0 one_3 rfl rfl rfl <| sr 1 rfl <| sE ?_;clear H a;intro a H
    refine k25 _ ?_;clear k25 K25
    refine condL H rfl (fun hc5 => ?_) (fun hc5 => ?_)
    ·skip
     refine one_list ?_
     refine ls 1 H <| sr 1 rfl <| sE ?_;clear H a;intro a H
     refine list_does H rfl ((by first | (exact does_loadOwn agg_70 sz_70 rfl (ragM.pull S (i := 5) rfl hik) (i := 0) rfl (by omega) (by omega); trace "ALT ways_Plan 17.1.1 0") | (exact does_loadBox agg_70 sz_70 rfl S (i := 0) rfl rfl; trace "ALT ways_Plan 17.1.1 1") | (exact does_loadBox agg_70 sz_70 rfl S (i := 1) rfl rfl; trace "ALT ways_Plan 17.1.1 2") | (exact does_loadBox agg_70 sz_70 rfl S (i := 2) rfl rfl; trace "ALT ways_Plan 17.1.1 3") | (exact does_loadBox agg_70 sz_70 rfl S (i := 3) rfl rfl; trace "ALT ways_Plan 17.1.1 4") | (exact does_loadBox agg_70 sz_70 rfl S (i := 4) rfl rfl; trace "ALT ways_Plan 17.1.1 5") | (exact does_loadBox agg_70 sz_70 rfl S (i := 5) rfl rfl; trace "ALT ways_Plan 17.1.1 6") | (exact does_loadBox agg_70 sz_70 rfl S (i := 6) rfl rfl; trace "ALT ways_Plan 17.1.1 7"))) ?_;clear H a;intro a H
     refine list_build' H rfl S sl_66 sz_70 ze_70 rfl rfl rfl rfl rfl rfl rfl rfl rfl ?_;clear H a S;intro A1 _ a hA1 S H
     refine list_append H rfl S sl_66 sz_70 ze_70 by_70 rfl rfl (i := 3) rfl rfl rfl (ownM.inS S (i := 0) rfl) (w8one_vs (w8four rfl rfl rfl rfl)) (by omega) (by omega) ?_;clear H a S;intro A2 c2 _ a S H
     replace S := S.recell (i := 3) rfl (cell' := mvcell (l2 ++ [⟨((layT P T pe xs (hds out xs ps)).mv i j).pas, ((layT P T pe xs (hds out xs ps)).mv i j).fr, ((layT P T pe xs (hds out xs ps)).mv i j).at_, r ((layN P T pe xs (hds out xs ps)).to i j) ((layN P T pe xs (hds out xs ps)).back i j)⟩])) (fun k9 j9 hk9 hj9 => mv_snoc (m := ⟨((layT P T pe xs (hds out xs ps)).mv i j).pas, ((layT P T pe xs (hds out xs ps)).mv i j).fr, ((layT P T pe xs (hds out xs ps)).mv i j).at_, r ((layN P T pe xs (hds out xs ps)).to i j) ((layN P T pe xs (hds out xs ps)).back i j)⟩) rfl rfl rfl rfl k9 j9 hk9 hj9)
     rw [show l2.length + 1 = (l2 ++ [(⟨((layT P T pe xs (hds out xs ps)).mv i j).pas, ((layT P T pe xs (hds out xs ps)).mv i j).fr, ((layT P T pe xs (hds out xs ps)).mv i j).at_, r ((layN P T pe xs (hds out xs ps)).to i j) ((layN P T pe xs (hds out xs ps)).back i j)⟩ : Mv)]).length by simp] at H S
     refine ls 1 H <| sr 1 rfl <| sE ?_;clear H a;intro a H
     refine k20 _ _ ?_
     replace H := H.keep [11, 12, 36, 37, 38, 42, 43, 44] rfl
     refine sO H <| sd (does_add rfl rfl (by unfold i64ok; omega)) <| sr 1 rfl <| sE ?_;clear H a;intro a H
     exact k17 (g2 - 1) (j + 1, _, _, _) a _ (by omega) (by first | exact ⟨by omega, by omega, pl_yes hW2 hc4 hc5⟩ | exact ⟨by omega, by omega, pl_no hW2 (fun h => by omega)⟩) (S.sel [3, 4, 5, 6, 7] rfl rfl) (H.keep [12, 44, 11, 36, 37, 38, 42, 43] rfl)
    refine wp_skip ?_
    refine k20 _ _ ?_
    refine sO H <| sd (does_add rfl rfl (by unfold i64ok; omega)) <| sr 1 rfl <| sE ?_;clear H a;intro a H
    exact k17 (g2 - 1) (j + 1, _, _, _) a _ (by omega) (by first | exact ⟨by omega, by omega, pl_yes hW2 hc4 hc5⟩ | exact ⟨by omega, by omega, pl_no hW2 (fun h => by omega)⟩) (S.sel [2, 3, 4, 5, 6] rfl rfl) (H.keep [12, 44, 11, 36, 37, 38, 42, 43] rfl)
   refine wp_skip ?_
   refine k20 _ _ ?_
   refine sO H <| sd (does_add rfl rfl (by unfold i64ok; omega)) <| sr 1 rfl <| sE ?_;clear H a;intro a H
   exact k17 (g2 - 1) (j + 1, _, _, _) a _ (by omega) (by first | exact ⟨by omega, by omega, pl_yes hW2 hc4 hc5⟩ | exact ⟨by omega, by omega, pl_no hW2 (fun h => by omega)⟩) (S.sel [2, 3, 4, 5, 6] rfl rfl) (H.keep [12, 44, 11, 36, 37, 38, 42, 43] rfl)
  refine wp_exit ?_
  refine k14 _ _ ?_
  refine sO H <| sd (does_add rfl rfl (by unfold i64ok; omega)) <| sr 1 rfl <| sE ?_;clear H a;intro a H
  exact k11 (g1 - 1) (i + 1, _, _, _) a _ (by omega) (⟨by omega, by omega, by rw [hW2, show j = (layN P T pe xs (hds out xs ps)).n i by omega, hW]; rfl⟩) (S.sel [0, 1, 2, 3, 4] rfl rfl) (H.keep [12, 38, 11, 36, 37] rfl)
 refine wp_exit ?_
 refine k9 _ _ ?_
 replace H := H.keep [12] rfl
 refine sS H fun K31 k31=>sr 3 rfl <| sE ?_;clear H a;intro a H
 refine k31 _ ?_;clear k31 K31
 refine wp_ret ?_
 refine ret2 (fn := Try.f20) rfl H rfl rfl ?_
 have hE : EndP P T pe xs (hds out xs ps) v r L := ⟨hF, h0v, hLv, hLx⟩
 obtain ⟨p1, p2, p3, p4⟩ := plN_ok hV hou.1 hpp hT hE
 have hWn : l = plN P T pe xs (hds out xs ps) r := by rw [hW, show i = P * (T + 1) + 2 by omega]; rfl
 rw [← hWn] at p1 p2 p3 p4
 rw [Int.toNat_natCast, Int.toNat_natCast]
 exact .inr ⟨hc1, l, A9, c9, ⟨rfl, p1, p2, p3, p4⟩, (S.sel [0] rfl rfl)⟩

end Go.Proofs.Ytdepakimbagonaa
