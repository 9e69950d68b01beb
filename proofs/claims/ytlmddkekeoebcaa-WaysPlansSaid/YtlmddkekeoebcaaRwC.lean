/- RwC. Printed by gen.py. -/
import Derived.Test.YtlmddkekeoebcaaRwB
import Derived.Test.YtlmddkekeoebcaaE4
import Derived.Test.YtlmddkekeoebcaaE1
namespace Go.Proofs.Ytlmddkekeoebcaa
open Go.RowKit
set_option linter.unusedVariables false
set_option linter.unusedSimpArgs false
set_option maxRecDepth 100000
set_option maxHeartbeats 4000000


theorem way_form {pl : Int} {ps : List Psg} {xs : List Int} {out : Int} {help : Bool} {fr to : Int} {w : World} {u : Value} {w' : World} (h : (fun u w' => (askE pl ps xs out [fr, to] ≠ 0 ∧ u = .tuple #[.int .i64 0, .slice none 0 0, .int .i64 (askE pl ps xs out [fr, to])] ∧ St w noF [] w') ∨ (askE pl ps xs out [fr, to] = 0 ∧ FarOk pl.toNat ps out help to.toNat (dst pl.toNat ps out help to.toNat) ∧ ((dst pl.toNat ps out help to.toNat fr.toNat < 0 ∧ u = .tuple #[.int .i64 0, .slice none 0 0, .int .i64 3] ∧ St w noF [] w') ∨ (0 ≤ dst pl.toNat ps out help to.toNat fr.toNat ∧ ∃ A c, u = .tuple #[.int .i64 (dst pl.toNat ps out help to.toNat fr.toNat), .slice A (wayL pl.toNat ps out help fr.toNat to.toNat).length c, .int .i64 0] ∧ St w noF [ownM 3 1 A (wayL pl.toNat ps out help fr.toNat to.toNat).length c (wcl (wayL pl.toNat ps out help fr.toNat to.toNat))] w')))) u w') : (fun u w' => ∃ A c, u = .tuple #[.int .i64 (wayV pl ps xs out help fr to).1, .slice A (wayV pl ps xs out help fr to).2.1.length c, .int .i64 (wayV pl ps xs out help fr to).2.2] ∧ (askE pl ps xs out [fr, to] = 0 → FarOk pl.toNat ps out help to.toNat (dst pl.toNat ps out help to.toNat)) ∧ St w noF [ownM 3 1 A (wayV pl ps xs out help fr to).2.1.length c (icl (wayV pl ps xs out help fr to).2.1)] w') u w' := by
  rcases h with ⟨h0, rfl, S⟩ | ⟨h0, hf, ⟨hd, rfl, S⟩ | ⟨hd, A, c, rfl, S⟩⟩
  · have e : wayV pl ps xs out help fr to = (0, [], askE pl ps xs out [fr, to]) := by unfold wayV; rw [if_pos h0]
    rw [e]
    exact ⟨none, 0, rfl, fun h => absurd h h0, S.newNil _ _ _⟩
  · have e : wayV pl ps xs out help fr to = (0, [], 3) := by unfold wayV; rw [if_neg (by omega), if_pos hd]
    rw [e]
    exact ⟨none, 0, rfl, fun _ => hf, S.newNil _ _ _⟩
  · have e : wayV pl ps xs out help fr to = (dst pl.toNat ps out help to.toNat fr.toNat, toI (wayL pl.toNat ps out help fr.toNat to.toNat), 0) := by unfold wayV; rw [if_neg (by omega), if_neg (by omega)]
    rw [e]
    dsimp only
    rw [toI_len, ← wcl_icl]
    exact ⟨A, c, rfl, fun _ => hf, S⟩
theorem need_form {pl : Int} {ps : List Psg} {xs : List Int} {out : Int} {help : Bool} {fr to : Int} {w : World} {u : Value} {w' : World} (h : (fun u w' => (askE pl ps xs out [fr, to] ≠ 0 ∧ u = .tuple #[.slice none 0 0, .int .i64 (askE pl ps xs out [fr, to])] ∧ St w noF [] w') ∨ (askE pl ps xs out [fr, to] = 0 ∧ FarOk pl.toNat ps out help to.toNat (dst pl.toNat ps out help to.toNat) ∧ ((dst pl.toNat ps out help to.toNat fr.toNat < 0 ∧ u = .tuple #[.slice none 0 0, .int .i64 3] ∧ St w noF [] w') ∨ (0 ≤ dst pl.toNat ps out help to.toNat fr.toNat ∧ (∀ m : Nat, m < 12 → out / 2 ^ m % 2 = 0 → FarOk pl.toNat ps (out + 2 ^ m) help to.toNat (dst pl.toNat ps (out + 2 ^ m) help to.toNat)) ∧ ∃ A c, u = .tuple #[.slice A (needL pl.toNat ps out help fr.toNat to.toNat 12).length c, .int .i64 0] ∧ St w noF [ownM 3 1 A (needL pl.toNat ps out help fr.toNat to.toNat 12).length c (wcl (needL pl.toNat ps out help fr.toNat to.toNat 12))] w')))) u w') : (fun u w' => ∃ A c, u = .tuple #[.slice A (needV pl ps xs out help fr to).1.length c, .int .i64 (needV pl ps xs out help fr to).2] ∧ St w noF [ownM 3 1 A (needV pl ps xs out help fr to).1.length c (icl (needV pl ps xs out help fr to).1)] w') u w' := by
  rcases h with ⟨h0, rfl, S⟩ | ⟨h0, hf, ⟨hd, rfl, S⟩ | ⟨hd, hg, A, c, rfl, S⟩⟩
  · have e : needV pl ps xs out help fr to = ([], askE pl ps xs out [fr, to]) := by unfold needV; rw [if_pos h0]
    rw [e]
    exact ⟨none, 0, rfl, S.newNil _ _ _⟩
  · have e : needV pl ps xs out help fr to = ([], 3) := by unfold needV; rw [if_neg (by omega), if_pos hd]
    rw [e]
    exact ⟨none, 0, rfl, S.newNil _ _ _⟩
  · have e : needV pl ps xs out help fr to = (toI (needL pl.toNat ps out help fr.toNat to.toNat 12), 0) := by unfold needV; rw [if_neg (by omega), if_neg (by omega)]
    rw [e]
    dsimp only
    rw [toI_len, ← wcl_icl]
    exact ⟨A, c, rfl, S⟩
theorem filt_yes {l : List Nat} {f : Nat → Bool} {i : Nat} {wl : List Nat} (h : wl = (l.take i).filter f) (hi : i < l.length) (hf : f (l.getD i 0) = true) : wl ++ [l.getD i 0] = (l.take (i + 1)).filter f := by
  rw [List.getD_eq_getElem?_getD, List.getElem?_eq_getElem hi, Option.getD_some] at hf ⊢
  rw [List.take_succ_eq_append_getElem hi, List.filter_append, ← h, List.filter_cons_of_pos hf]; rfl
theorem filt_no {l : List Nat} {f : Nat → Bool} {i : Nat} {wl : List Nat} (h : wl = (l.take i).filter f) (hi : i < l.length) (hf : f (l.getD i 0) = false) : wl = (l.take (i + 1)).filter f := by
  rw [List.getD_eq_getElem?_getD, List.getElem?_eq_getElem hi, Option.getD_some] at hf
  rw [List.take_succ_eq_append_getElem hi, List.filter_append, ← h, List.filter_cons_of_neg (by rw [hf]; simp), List.filter_nil, List.append_nil]
theorem filt_len {l : List Nat} {f : Nat → Bool} {i : Nat} : ((l.take i).filter f).length ≤ i := Nat.le_trans (List.length_filter_le ..) (by rw [List.length_take]; omega)
theorem machR_in {ps : List Psg} {out kind : Int} {m : Nat} : ∀ (i x : Nat), x ∈ machR ps out kind m i → x = m ∧ ¬ out / 2 ^ m % 2 = 1 := by
  intro i
  induction i with
  | zero => intro x h; cases h
  | succ i ih =>
    intro x h
    rcases List.mem_append.1 h with h | h
    · exact ih x h
    · split at h
      · rename_i hb
        unfold machB at hb
        simp only [Bool.and_eq_true, decide_eq_true_eq, Bool.not_eq_true', decide_eq_false_iff_not] at hb
        exact ⟨List.mem_singleton.1 h, hb.2⟩
      · cases h
theorem machL_in {ps : List Psg} {out kind : Int} : ∀ (m x : Nat), x ∈ machL ps out kind m → x < m ∧ ¬ out / 2 ^ x % 2 = 1 := by
  intro m
  induction m with
  | zero => intro x h; cases h
  | succ m ih =>
    intro x h
    rcases List.mem_append.1 h with h | h
    · have := ih x h; exact ⟨by omega, this.2⟩
    · have := machR_in _ _ h; rw [this.1]; exact ⟨by omega, this.2⟩
theorem getD_in {l : List Nat} {i : Nat} (h : i < l.length) : l.getD i 0 ∈ l := by
  rw [List.getD_eq_getElem?_getD, List.getElem?_eq_getElem h]; exact List.getElem_mem h


theorem ref_Way (pl : Int) (ps : List Psg) (PA : Option Addr) (pc : Nat) (xs : List Int) (XA : Option Addr) (xc : Nat) (out : Int) (help : Bool) (fr to : Int) (w : World) (hps : InS w noF 7 PA ps.length (pcell ps)) (hpn : ps.length ≤ 9223372036854775807) (hxs : InS w noF 1 XA xs.length (icl xs)) (hxn : xs.length ≤ 9223372036854775807) :
    Calls Try.prog 22 [.agg [.int .i64 pl, .slice PA ps.length pc, .slice XA xs.length xc].toArray, .int .i64 out, .bool help, .int .i64 fr, .int .i64 to].toArray w (Ret (fun u w' => (askE pl ps xs out [fr, to] ≠ 0 ∧ u = .tuple #[.int .i64 0, .slice none 0 0, .int .i64 (askE pl ps xs out [fr, to])] ∧ St w noF [] w') ∨ (askE pl ps xs out [fr, to] = 0 ∧ FarOk pl.toNat ps out help to.toNat (dst pl.toNat ps out help to.toNat) ∧ ((dst pl.toNat ps out help to.toNat fr.toNat < 0 ∧ u = .tuple #[.int .i64 0, .slice none 0 0, .int .i64 3] ∧ St w noF [] w') ∨ (0 ≤ dst pl.toNat ps out help to.toNat fr.toNat ∧ ∃ A c, u = .tuple #[.int .i64 (dst pl.toNat ps out help to.toNat fr.toNat), .slice A (wayL pl.toNat ps out help fr.toNat to.toNat).length c, .int .i64 0] ∧ St w noF [ownM 3 1 A (wayL pl.toNat ps out help fr.toNat to.toNat).length c (wcl (wayL pl.toNat ps out help fr.toNat to.toNat))] w'))))) := by
 refine enter Try.func22 rfl Try.ntmps22 rfl (fun a H => ?_)
 have S := St.start w
 refine seq_list fun K1 k1 => ?_
 refine list_box H rfl S rfl rfl ?_;clear H a S;intro b5 _ a hb5 hbw5 S H
 refine ls 3 H <| sr 3 rfl <| sE ?_;clear H a;intro a H
 refine k1 _ _ ?_;clear k1 K1
 replace H := H.keep [1, 2, 3, 4, 5] rfl
 refine seq_list fun K2 k2 => ?_
 refine ls 4 H <| sd ((does_loadBox agg_25 sz_25 rfl S (i := 0) rfl rfl)) <| sr 3 rfl <| sE ?_;clear H a;intro a H
 refine list_build' H rfl S sl_23 sz_3 ze_3 rfl rfl rfl rfl rfl rfl rfl rfl rfl ?_;clear H a S;intro A1 _ a hA1 S H
 refine list_call H rfl rfl Try.func52 rfl rfl (ref_checkPlaces pl ps PA pc xs XA xc out [fr, to] _ _ _ (hps.now S) hpn (hxs.now S) hxn ((ownM.inS S (i := 0) rfl).congr (fun k j hk hj => two_cells k j hk hj)) (show 2 ≤ 9223372036854775807 by omega)) ?_;clear H a
 rintro _ _ a ⟨rfl, S2⟩ H
 replace S := S.call S2;clear S2
 refine ls 1 H <| sr 1 rfl <| sE ?_;clear H a;intro a H
 refine k2 _ _ ?_;clear k2 K2
 refine wp_seq_k fun K3 k3 => ?_
 refine sS H fun K4 k4=>sr 2 rfl <| sE ?_;clear H a;intro a H
 refine k4 _ ?_;clear k4 K4
 refine condN H rfl (fun hc1 => ?_) (fun hc1 => ?_)
 ·skip
  replace H := H.keep [13] rfl
  refine sS H fun K5 k5=>sr 4 rfl <| sE ?_;clear H a;intro a H
  refine k5 _ ?_;clear k5 K5
  refine wp_ret ?_
  refine ret3 (fn := Try.f22) rfl H rfl rfl rfl ?_
  exact .inl ⟨hc1, rfl, (S.sel [] rfl rfl)⟩
 obtain ⟨hst, hou, hpl⟩ := askE_ok hc1
 have hV0 := st_valid hst
 obtain ⟨P, rfl⟩ : ∃ P : Nat, pl = P := ⟨pl.toNat, by have := hV0.size; omega⟩
 have hV := hV0
 have hP10 := hV.size
 have hfr : 0 ≤ fr ∧ fr ≤ P - 1 := hpl 0 (show 0 < 2 by omega)
 have hto : 0 ≤ to ∧ to ≤ P - 1 := hpl 1 (show 1 < 2 by omega)
 obtain ⟨fr, rfl⟩ := Int.eq_ofNat_of_zero_le hfr.1
 obtain ⟨to, rfl⟩ := Int.eq_ofNat_of_zero_le hto.1
 refine wp_skip ?_
 refine k3 _ _ ?_
 replace H := H.keep [1, 2, 3, 4, 5] rfl
 refine seq_list fun K6 k6 => ?_
 refine ls 4 H <| sd ((does_loadBox agg_25 sz_25 rfl S (i := 1) rfl rfl)) <| sr 3 rfl <| sE ?_;clear H a;intro a H
 refine list_call H rfl rfl Try.func53 rfl rfl (ref_reach P ps PA pc xs XA xc out help (to : Int) _ (hps.now S) hpn (hxs.now S) hxn hV hou.1 (by omega)) ?_;clear H a
 rintro _ _ a ⟨A5, c5, rfl, hdo, S2⟩ H
 replace S := S.call S2;clear S2
 rw [Int.toNat_natCast] at hdo S
 have hsf := hdo.sml fr (by omega)
 refine ls 1 H <| sr 1 rfl <| sE ?_;clear H a;intro a H
 refine k6 _ _ ?_;clear k6 K6
 refine wp_seq_k fun K7 k7 => ?_
 replace H := H.keep [1, 2, 3, 4, 5, 14] rfl
 refine sS H fun K8 k8=>sr 2 rfl <| si sl_23 sz_3 rfl rfl (ownM.adr S (i := 0) rfl (by omega)) (by omega) <| slm one_3 rfl (ownM.rd S (i := 0) rfl (by omega) (by omega)) <| sr 1 rfl <| sE ?_;clear H a;intro a H
 refine k8 _ ?_;clear k8 K8
 refine condE H rfl (fun hc2 => ?_) (fun hc2 => ?_)
 ·skip
  have hfar := (rv_far hsf).1 hc2
  refine sS H fun K9 k9=>sr 3 rfl <| sE ?_;clear H a;intro a H
  refine k9 _ ?_;clear k9 K9
  refine wp_ret ?_
  refine ret3 (fn := Try.f22) rfl H rfl rfl rfl ?_
  simp only [Int.toNat_natCast]
  exact .inr ⟨hc1, hdo, .inl ⟨hfar, trivial, (S.sel [] rfl rfl)⟩⟩
 have hnf := mt (rv_far hsf).2 hc2
 refine wp_skip ?_
 refine k7 _ _ ?_
 replace H := H.keep [1, 2, 3, 4, 5, 14] rfl
 refine sS H fun K10 k10=>sr 2 rfl <| si sl_23 sz_3 rfl rfl (ownM.adr S (i := 0) rfl (by omega)) (by omega) <| slm one_3 rfl (ownM.rd S (i := 0) rfl (by omega) (by omega)) <| sr 1 rfl <| sE ?_;clear H a;intro a H
 refine k10 _ ?_;clear k10 K10
 rw [show rcl (dst P ps out help to) fr 0 = .int .i64 (dst P ps out help to fr) by unfold rcl; rw [rv_nn (by omega)]] at H
 refine sS H fun K11 k11=>sr 1 rfl <| sE ?_;clear H a;intro a H
 refine k11 _ ?_;clear k11 K11
 refine wp_seq_k fun K12 k12 => ?_
 refine wp_block ?_
 replace S := S.newNil 3 1 (wcl [])
 refine loop_st (X := Nat × List Nat × Option Addr × Nat) (R0 := _) [1, 2, 4, 5, 14, 15] H rfl (fun ⟨p, wl, A9, c9⟩ => [(3, .int .i64 (p : Int)), (16, .slice A9 wl.length c9)]) (fun ⟨p, wl, A9, c9⟩ => [ownM 3 1 A9 wl.length c9 (wcl wl)]) (fun g ⟨p, wl, A9, c9⟩ => p < P ∧ 0 ≤ dst P ps out help to p ∧ dst P ps out help to p ≤ (g : Int) ∧ wl ++ wayG ps out help (dst P ps out help to) to g p = wayL P ps out help fr to) ((dst P ps out help to fr).toNat) (fr, [], none, 0) ?_ (S.sel [0, 1, 2, 3] rfl rfl) (H.keep [3, 16, 1, 2, 4, 5, 14, 15] rfl) ?_
 · exact ⟨by omega, by omega, by omega, rfl⟩
 clear H S a
 intro g1 x1 a w1 hp S H K13 k13
 obtain ⟨p, wl, A9, c9⟩ := x1
 dsimp only at hp S H
 obtain ⟨hpP, hp0, hpg, hW⟩ := hp
 refine wp_seq_k fun K14 k14 => ?_
 refine sS H fun K15 k15=>sr 3 rfl <| sE ?_;clear H a;intro a H
 refine k15 _ ?_;clear k15 K15
 refine condN H rfl (fun hc3 => ?_) (fun hc3 => ?_)
 ·skip
  refine wp_skip ?_
  refine k14 _ _ ?_
  refine wp_block ?_
  refine sS H fun K16 k16=>sr 1 rfl <| sE ?_;clear H a;intro a H
  refine k16 _ ?_;clear k16 K16
  refine wp_block ?_
  refine loop_st (X := Nat) (R0 := _) [1, 2, 4, 5, 14, 15] H rfl (fun k => [(3, .int .i64 (p : Int)), (16, .slice A9 wl.length c9), (17, .int .i64 (k : Int))]) (fun k => []) (fun g k => k ≤ ps.length ∧ g + k = ps.length ∧ ∀ q, q < k → stepB ps out help (dst P ps out help to) p q = false) (ps.length) 0 ?_ (S.sel [0, 1, 2, 3] rfl rfl) (H.keep [3, 16, 17, 1, 2, 4, 5, 14, 15] rfl) ?_
  · exact ⟨by omega, by omega, fun q hq => absurd hq (Nat.not_lt_zero q)⟩
  clear H S a
  intro g2 x2 a w2 hp S H K17 k17
  obtain ⟨k, rfl⟩ : ∃ y, y = x2 := ⟨_, rfl⟩
  refine wp_seq_k fun K18 k18 => ?_
  refine sS H fun K19 k19=>sr 1 rfl <| sf fo_25_1 rfl <| sl S 3 one_22 rfl rfl rfl <| sL sl_22 rfl <| sr 1 rfl <| sE ?_;clear H a;intro a H
  refine k19 _ ?_;clear k19 K19
  refine condL H rfl (fun hc4 => ?_) (fun hc4 => ?_)
  ·skip
   refine wp_skip ?_
   refine k18 _ _ ?_
   refine wp_seq_k fun K20 k20 => ?_
   refine wp_block ?_
   replace H := H.keep [1, 2, 3, 4, 5, 14, 15, 16, 17] rfl
   refine seq_list fun K21 k21 => ?_
   refine ls 5 H <| sf fo_25_1 rfl <| sl S 3 one_22 rfl rfl rfl <| sr 1 rfl <| si sl_22 sz_45 rfl rfl (hps.adr (by omega)) (by omega) <| sd ((does_loadIn agg_45 sz_45 rfl S hps (by omega) (by omega))) <| sE ?_;clear H a;intro a H
   refine list_alloc H rfl S ze_45 ?_;clear H a S;intro b18 _ a hb18 hbw18 S H
   refine list_store H S (i := 0) rfl rfl rfl rfl sz_45 rfl rfl ?_
   clear H a S;intro _ a S H
   refine k21 _ _ ?_;clear k21 K21
   replace H := H.keep [1, 2, 3, 4, 5, 14, 15, 16, 17, 18] rfl
   refine seq_list fun K22 k22 => ?_
   refine ls 2 H <| sd ((does_loadBox agg_45 sz_45 rfl S (i := 0) rfl rfl)) <| sr 1 rfl <| sE ?_;clear H a;intro a H
   refine list_call H rfl rfl Try.func60 rfl rfl (ref_Other (ps.getD k Psg.zero) (p : Int) _) ?_;clear H a
   rintro _ _ a ⟨rfl, S2⟩ H
   replace S := S.call S2;clear S2
   refine ls 1 H <| sr 1 rfl <| sE ?_;clear H a;intro a H
   refine k22 _ _ ?_;clear k22 K22
   have hvb := hV.psv k (by omega)
   have hsp := hdo.sml p (by omega)
   have hrp := rv_bd (x := dst P ps out help to p) (by omega)
   rcases wy3 (othr (ps.getD k Psg.zero) (p : Int)) (opn out help (ps.getD k Psg.zero)) with hB | hB | hB
   ·skip
    skip
    replace H := H.keep [1, 2, 3, 4, 5, 14, 15, 16, 17, 18, 19] rfl
    replace S := S.drew
    refine seq_wq [(0, true), (1, true), (2, true), (3, true), (4, true), (5, true), (6, true), (7, true), (8, true), (9, true), (10, true), (11, true), (12, true), (13, true), (14, true), (15, true), (16, true), (17, true), (18, true), (19, true), (20, true), (21, true)] (by kernel_rfl) (by kernel_rfl) (S.sel [0, 1, 2, 3, 4] rfl rfl) fun K23 k23 => ?_
    refine qF H <| qr 1 rfl <| qd rfl (fun _ S => does_ge_f rfl rfl (by omega)) <| qr 1 rfl <| qK ?_;clear H a;intro a H
    refine wq_no H rfl rfl rfl rfl rfl ?_;clear H a;intro a H
    refine wq_no H rfl rfl rfl rfl rfl ?_;clear H a;intro a H
    refine wq_no H rfl rfl rfl rfl rfl ?_;clear H a;intro a H
    refine wq_no H rfl rfl rfl rfl rfl ?_;clear H a;intro a H
    refine qF H <| qd rfl (fun _ S => (does_pick rfl rfl rfl)) <| qr 1 rfl <| qK ?_;clear H a;intro a H
    refine wq_no H rfl rfl rfl rfl rfl ?_;clear H a;intro a H
    refine wq_no H rfl rfl rfl rfl rfl ?_;clear H a;intro a H
    refine wq_no H rfl rfl rfl rfl rfl ?_;clear H a;intro a H
    refine wq_no H rfl rfl rfl rfl rfl ?_;clear H a;intro a H
    refine wq_no H rfl rfl rfl rfl rfl ?_;clear H a;intro a H
    refine wq_no H rfl rfl rfl rfl rfl ?_;clear H a;intro a H
    refine wq_no H rfl rfl rfl rfl rfl ?_;clear H a;intro a H
    refine wq_no H rfl rfl rfl rfl rfl ?_;clear H a;intro a H
    refine wq_no H rfl rfl rfl rfl rfl ?_;clear H a;intro a H
    refine wq_no H rfl rfl rfl rfl rfl ?_;clear H a;intro a H
    refine wq_no H rfl rfl rfl rfl rfl ?_;clear H a;intro a H
    refine wq_no H rfl rfl rfl rfl rfl ?_;clear H a;intro a H
    refine qF H <| qd rfl (fun _ S => (does_pick rfl rfl rfl)) <| qK ?_;clear H a;intro a H
    refine wq_nil ?_
    refine k23 _ _ ?_
    clear k23 K23
    refine cond_ H rfl (fun hc5 => ?_) (fun hc5 => ?_)
    ·skip
     skip
     cases hc5
    skip
    have hns : stepB ps out help (dst P ps out help to) p k = false := step_no1 hB
    refine wp_skip ?_
    refine k20 _ _ ?_
    replace H := H.keep [1, 2, 3, 4, 5, 14, 15, 16, 17] rfl
    refine sO H <| sr 1 rfl <| sd (does_add rfl rfl (by unfold i64ok; omega)) <| sr 1 rfl <| sE ?_;clear H a;intro a H
    exact k17 (g2 - 1) (k + 1) a _ (by omega) (⟨by omega, by omega, no_step hp.2.2 hns⟩) (S.sel [1, 2, 3, 4] rfl rfl) (H.keep [3, 16, 17, 1, 2, 4, 5, 14, 15] rfl)
   ·skip
    skip
    replace H := H.keep [1, 2, 3, 4, 5, 14, 15, 16, 17, 18, 19] rfl
    replace S := S.drew
    refine seq_wq [(0, true), (1, true), (2, true), (3, true), (4, true), (5, true), (6, false), (7, true), (8, true), (9, true), (10, true), (11, true), (12, true), (13, true), (14, true), (15, true), (16, true), (17, true), (18, true), (19, true), (20, true), (21, true)] (by kernel_rfl) (by kernel_rfl) (S.sel [0, 1, 2, 3, 4] rfl rfl) fun K25 k25 => ?_
    refine qF H <| qr 1 rfl <| qd rfl (fun _ S => does_ge_t rfl rfl hB.1) <| qr 1 rfl <| qK ?_;clear H a;intro a H
    refine wq_yes H rfl rfl rfl rfl (fun _ S => (does_loadBox agg_45 sz_45 rfl S (i := 0) rfl rfl)) ?_;clear H a;intro a H
    refine wq_yes H rfl rfl rfl rfl (fun _ S => does_move rfl) ?_;clear H a;intro a H
    refine wq_yes H rfl rfl rfl rfl (fun _ S => does_move rfl) ?_;clear H a;intro a H
    refine wq_eff rfl ?_
    refine list_yes H rfl rfl ?_
    refine list_call H rfl rfl Try.func61 rfl rfl (ref_free (ps.getD k Psg.zero) out help _ (hV.mch k (by omega))) ?_;clear H a
    rintro _ _ a ⟨rfl, S2⟩ H
    replace S := S.call S2;clear S2
    rw [hB.2] at H
    refine wpList_nil (And.intro (S.sel [0, 1, 2, 3, 4] rfl rfl) ?_)
    refine qF H <| qd rfl (fun _ S => (does_and rfl rfl rfl)) <| qr 1 rfl <| qK ?_;clear H a;intro a H
    refine wq_no H rfl rfl rfl rfl rfl ?_;clear H a;intro a H
    refine wq_no H rfl rfl rfl rfl rfl ?_;clear H a;intro a H
    refine wq_no H rfl rfl rfl rfl rfl ?_;clear H a;intro a H
    refine wq_no H rfl rfl rfl rfl rfl ?_;clear H a;intro a H
    refine wq_no H rfl rfl rfl rfl rfl ?_;clear H a;intro a H
    refine wq_no H rfl rfl rfl rfl rfl ?_;clear H a;intro a H
    refine wq_no H rfl rfl rfl rfl rfl ?_;clear H a;intro a H
    refine wq_no H rfl rfl rfl rfl rfl ?_;clear H a;intro a H
    refine wq_no H rfl rfl rfl rfl rfl ?_;clear H a;intro a H
    refine wq_no H rfl rfl rfl rfl rfl ?_;clear H a;intro a H
    refine wq_no H rfl rfl rfl rfl rfl ?_;clear H a;intro a H
    refine wq_no H rfl rfl rfl rfl rfl ?_;clear H a;intro a H
    refine qF H <| qd rfl (fun _ S => (does_pick rfl rfl rfl)) <| qK ?_;clear H a;intro a H
    refine wq_nil ?_
    refine k25 _ _ ?_
    clear k25 K25
    refine cond_ H rfl (fun hc6 => ?_) (fun hc6 => ?_)
    ·skip
     skip
     cases hc6
    skip
    have hns : stepB ps out help (dst P ps out help to) p k = false := step_no2 hB.2
    refine wp_skip ?_
    refine k20 _ _ ?_
    replace H := H.keep [1, 2, 3, 4, 5, 14, 15, 16, 17] rfl
    refine sO H <| sr 1 rfl <| sd (does_add rfl rfl (by unfold i64ok; omega)) <| sr 1 rfl <| sE ?_;clear H a;intro a H
    exact k17 (g2 - 1) (k + 1) a _ (by omega) (⟨by omega, by omega, no_step hp.2.2 hns⟩) (S.sel [1, 2, 3, 4] rfl rfl) (H.keep [3, 16, 17, 1, 2, 4, 5, 14, 15] rfl)
   have hoi := (oth_in hV.psv (show k < ps.length by omega) (out := out) (help := help) (a := (p : Int)) (by rw [oth_opn hB.2]; exact hB.1)).2.1
   rw [oth_opn hB.2] at hoi
   have hso := hdo.sml (othr (ps.getD k Psg.zero) (p : Int)).toNat (by omega)
   have hro := rv_bd (x := dst P ps out help to (othr (ps.getD k Psg.zero) (p : Int)).toNat) (by omega)
   replace H := H.keep [1, 2, 3, 4, 5, 14, 15, 16, 17, 18, 19] rfl
   replace S := S.drew
   refine seq_wq [(0, true), (1, true), (2, true), (3, true), (4, true), (5, true), (6, false), (7, true), (8, true), (9, true), (10, true), (11, true), (12, true), (13, true), (14, true), (15, true), (16, true), (17, true), (18, true), (19, true), (20, true), (21, true)] (by kernel_rfl) (by kernel_rfl) (S.sel [0, 1, 2, 3, 4] rfl rfl) fun K27 k27 => ?_
   refine qF H <| qr 1 rfl <| qd rfl (fun _ S => does_ge_t rfl rfl hB.1) <| qr 1 rfl <| qK ?_;clear H a;intro a H
   refine wq_yes H rfl rfl rfl rfl (fun _ S => (does_loadBox agg_45 sz_45 rfl S (i := 0) rfl rfl)) ?_;clear H a;intro a H
   refine wq_yes H rfl rfl rfl rfl (fun _ S => does_move rfl) ?_;clear H a;intro a H
   refine wq_yes H rfl rfl rfl rfl (fun _ S => does_move rfl) ?_;clear H a;intro a H
   refine wq_eff rfl ?_
   refine list_yes H rfl rfl ?_
   refine list_call H rfl rfl Try.func61 rfl rfl (ref_free (ps.getD k Psg.zero) out help _ (hV.mch k (by omega))) ?_;clear H a
   rintro _ _ a ⟨rfl, S2⟩ H
   replace S := S.call S2;clear S2
   rw [hB.2] at H
   refine wpList_nil (And.intro (S.sel [0, 1, 2, 3, 4] rfl rfl) ?_)
   refine qF H <| qd rfl (fun _ S => (does_and rfl rfl rfl)) <| qr 1 rfl <| qK ?_;clear H a;intro a H
   refine wq_yes H rfl rfl rfl rfl (fun _ S => does_move rfl) ?_;clear H a;intro a H
   refine wq_yes H rfl rfl rfl rfl (fun _ S => does_move rfl) ?_;clear H a;intro a H
   refine wq_yes H rfl rfl rfl rfl (fun _ S => does_index sl_23 sz_3 rfl rfl (ownM.adr S (i := 2) rfl (by omega)) (by omega) (by omega)) ?_;clear H a;intro a H
   refine wq_yes H rfl rfl rfl rfl (fun _ S => does_load one_3 rfl (ownM.rd S (i := 2) rfl (by omega) (by omega))) ?_;clear H a;intro a H
   refine wq_yes H rfl rfl rfl rfl (fun _ S => (does_field fo_45_3 rfl)) ?_;clear H a;intro a H
   refine wq_yes H rfl rfl rfl rfl (fun _ S => does_load one_3 rfl (boxM.rd S (i := 0) rfl rfl)) ?_;clear H a;intro a H
   refine wq_yes H rfl rfl rfl rfl (fun _ S => does_add rfl rfl (by unfold i64ok; omega)) ?_;clear H a;intro a H
   refine wq_yes H rfl rfl rfl rfl (fun _ S => does_move rfl) ?_;clear H a;intro a H
   refine wq_yes H rfl rfl rfl rfl (fun _ S => does_move rfl) ?_;clear H a;intro a H
   refine wq_yes H rfl rfl rfl rfl (fun _ S => does_indexN sl_23 sz_3 rfl rfl (ownM.adr S (i := 2) rfl (by omega)) (by omega)) ?_;clear H a;intro a H
   refine wq_yes H rfl rfl rfl rfl (fun _ S => does_load one_3 rfl (ownM.rd S (i := 2) rfl (by omega) (by omega))) ?_;clear H a;intro a H
   refine wq_yes H rfl rfl rfl rfl (fun _ S => does_eql rfl rfl) ?_;clear H a;intro a H
   refine qF H <| qd rfl (fun _ S => (does_and rfl rfl rfl)) <| qK ?_;clear H a;intro a H
   refine wq_nil ?_
   refine k27 _ _ ?_
   clear k27 K27
   refine cond_ H rfl (fun hc7 => ?_) (fun hc7 => ?_)
   ·skip
    try simp only [o1,o2,o3,o4,o5,o6,o7,o8,o9,oa] at hc7
    have hsb := step_rv hB.2 hB.1 hso (by omega) hvb.2.2 hc7.2
    obtain ⟨b, hb, hbP, hb0, hbd, hbt⟩ := step_of hV.psv (by omega) hsb
    have hsk := step_at hp.2.2 hsb (by omega)
    have hwl : wl.length ≤ 200 := by have := wayL_len (ps := ps) (out := out) (help := help) (to := to) hsf; rw [← hW, List.length_append] at this; omega
    rw [oth_opn hB.2] at hb
    rw [hb] at H
    rw [← oth_opn hB.2] at hb
    replace H := H.keep [1, 2, 4, 5, 14, 15, 16, 17, 19] rfl
    refine seq_list fun K28 k28 => ?_
    refine ls 2 H <| sr 2 rfl <| sE ?_;clear H a;intro a H
    refine list_build' H rfl S sl_23 sz_3 ze_3 rfl rfl rfl rfl rfl rfl rfl rfl rfl ?_;clear H a S;intro A2 _ a hA2 S H
    refine list_append H rfl S sl_23 sz_3 ze_3 by_3 rfl rfl (i := 2) rfl rfl rfl (ownM.inS S (i := 0) rfl) (one_vs (one rfl)) (by omega) (by omega) ?_;clear H a S;intro A3 c3 _ a S H
    replace S := S.recell (i := 2) rfl (cell' := wcl (wl ++ [k])) (fun k j hk hj => wcl_snoc rfl k j hk hj)
    rw [show wl.length + 1 = (wl ++ [k]).length by simp] at H S
    refine ls 1 H <| sr 1 rfl <| sE ?_;clear H a;intro a H
    refine k28 _ _ ?_;clear k28 K28
    refine sS H fun K29 k29=>sr 2 rfl <| sE ?_;clear H a;intro a H
    refine k29 _ ?_;clear k29 K29
    refine wp_exit ?_
    exact k13 (g1 - 1) (b, wl ++ [k], _, _) a _ (by omega) (⟨hbP, hb0, by omega, way_snoc hW (by omega) (by omega) hsk hb⟩) (S.sel [2, 3, 4, 5] rfl rfl) (H.keep [3, 16, 1, 2, 4, 5, 14, 15] rfl)
   try simp only [o1,o2,o3,o4,o5,o6,o7,o8,o9,oa] at hc7
   have hns : stepB ps out help (dst P ps out help to) p k = false := step_no3 hB.2 hB.1 (by omega) (by rcases hc7 with (h | h) | h; cases h; cases h; exact h)
   refine wp_skip ?_
   refine k20 _ _ ?_
   replace H := H.keep [1, 2, 3, 4, 5, 14, 15, 16, 17] rfl
   refine sO H <| sr 1 rfl <| sd (does_add rfl rfl (by unfold i64ok; omega)) <| sr 1 rfl <| sE ?_;clear H a;intro a H
   exact k17 (g2 - 1) (k + 1) a _ (by omega) (⟨by omega, by omega, no_step hp.2.2 hns⟩) (S.sel [1, 2, 3, 4] rfl rfl) (H.keep [3, 16, 17, 1, 2, 4, 5, 14, 15] rfl)
  exfalso
  obtain ⟨h91, h92, h93⟩ := hdo.stp hV.psv hpP hp0 (by omega)
  rw [hp.2.2 _ (by omega)] at h92
  cases h92
 refine wp_exit ?_
 refine k12 _ _ ?_
 refine sS H fun K31 k31=>sr 5 rfl <| sE ?_;clear H a;intro a H
 refine k31 _ ?_;clear k31 K31
 refine wp_ret ?_
 refine ret3 (fn := Try.f22) rfl H rfl rfl rfl ?_
 obtain rfl : p = to := by omega
 have hw9 := way_end hW
 simp only [Int.toNat_natCast]
 rw [← hw9]
 exact .inr ⟨hc1, hdo, .inr ⟨by omega, _, _, rfl, (S.sel [0] rfl rfl)⟩⟩

theorem ref_machines (pl : Int) (ps : List Psg) (PA : Option Addr) (pc : Nat) (xs : List Int) (XA : Option Addr) (xc : Nat) (out kind : Int) (w : World) (hps : InS w noF 7 PA ps.length (pcell ps)) (hpn : ps.length ≤ 9223372036854775807) (hxs : InS w noF 1 XA xs.length (icl xs)) (hxn : xs.length ≤ 9223372036854775807) (hp24 : ps.length ≤ 24) :
    Calls Try.prog 62 [.agg [.int .i64 pl, .slice PA ps.length pc, .slice XA xs.length xc].toArray, .int .i64 out, .int .i64 kind].toArray w (Ret (fun u w' => ∃ A c, u = .slice A (machL ps out kind 12).length c ∧ St w noF [ownM 3 1 A (machL ps out kind 12).length c (wcl (machL ps out kind 12))] w')) := by
 refine enter Try.func62 rfl Try.ntmps62 rfl (fun a H => ?_)
 have S := St.start w
 refine seq_list fun K1 k1 => ?_
 refine list_box H rfl S rfl rfl ?_;clear H a S;intro b3 _ a hb3 hbw3 S H
 refine ls 1 H <| sr 1 rfl <| sE ?_;clear H a;intro a H
 refine k1 _ _ ?_;clear k1 K1
 refine sS H fun K2 k2=>sr 1 rfl <| sE ?_;clear H a;intro a H
 refine k2 _ ?_;clear k2 K2
 refine wp_seq_k fun K3 k3 => ?_
 refine sS H fun K4 k4=>sr 1 rfl <| sE ?_;clear H a;intro a H
 refine k4 _ ?_;clear k4 K4
 refine wp_block ?_
 replace S := S.newNil 3 1 (wcl [])
 refine loop_st (X := Nat × List Nat × Option Addr × Nat) (R0 := _) [1, 2, 3] H rfl (fun ⟨m, wl, A9, c9⟩ => [(7, .slice A9 wl.length c9), (8, .int .i64 (m : Int))]) (fun ⟨m, wl, A9, c9⟩ => [ownM 3 1 A9 wl.length c9 (wcl wl)]) (fun g ⟨m, wl, A9, c9⟩ => m ≤ 12 ∧ g + m = 12 ∧ wl = machL ps out kind m) (12) (0, [], none, 0) ?_ (S.sel [0, 1] rfl rfl) (H.keep [7, 8, 1, 2, 3] rfl) ?_
 · exact ⟨by omega, by omega, rfl⟩
 clear H S a
 intro g1 x1 a w1 hp S H K5 k5
 obtain ⟨m, wl, A9, c9⟩ := x1
 dsimp only at hp S H
 obtain ⟨hm12, hgm, hW0⟩ := hp
 refine wp_seq_k fun K6 k6 => ?_
 refine sS H fun K7 k7=>sr 2 rfl <| sE ?_;clear H a;intro a H
 refine k7 _ ?_;clear k7 K7
 refine condL H rfl (fun hc1 => ?_) (fun hc1 => ?_)
 ·skip
  refine wp_skip ?_
  refine k6 _ _ ?_
  refine wp_seq_k fun K8 k8 => ?_
  refine wp_block ?_
  refine sS H fun K9 k9=>sr 1 rfl <| sE ?_;clear H a;intro a H
  refine k9 _ ?_;clear k9 K9
  refine wp_block ?_
  refine loop_st (X := Nat × List Nat × Option Addr × Nat) (R0 := _) [1, 2, 3, 8] H rfl (fun ⟨i, wl, A9, c9⟩ => [(7, .slice A9 wl.length c9), (9, .int .i64 (i : Int))]) (fun ⟨i, wl, A9, c9⟩ => [ownM 3 1 A9 wl.length c9 (wcl wl)]) (fun g ⟨i, wl, A9, c9⟩ => i ≤ ps.length ∧ g + i = ps.length ∧ wl = machL ps out kind m ++ machR ps out kind m i) (ps.length) (0, wl, A9, c9) ?_ (S.sel [0, 1] rfl rfl) (H.keep [7, 9, 1, 2, 3, 8] rfl) ?_
  · exact ⟨by omega, by omega, by rw [hW0]; exact (List.append_nil _).symm⟩
  clear H S a
  intro g2 x2 a w2 hp S H K10 k10
  obtain ⟨i, wl, A9, c9⟩ := x2
  dsimp only at hp S H
  obtain ⟨hil, hgi, hW⟩ := hp
  refine wp_seq_k fun K11 k11 => ?_
  refine sS H fun K12 k12=>sr 1 rfl <| sf fo_25_1 rfl <| sl S 1 one_22 rfl rfl rfl <| sL sl_22 rfl <| sr 1 rfl <| sE ?_;clear H a;intro a H
  refine k12 _ ?_;clear k12 K12
  refine condL H rfl (fun hc2 => ?_) (fun hc2 => ?_)
  ·skip
   refine wp_skip ?_
   refine k11 _ _ ?_
   refine wp_seq_k fun K13 k13 => ?_
   refine wp_block ?_
   replace H := H.keep [1, 2, 3, 7, 8, 9] rfl
   refine sS H fun K14 k14=>sf fo_25_1 rfl <| sl S 1 one_22 rfl rfl rfl <| sr 1 rfl <| si sl_22 sz_45 rfl rfl (hps.adr (by omega)) (by omega) <| sp fo_45_2 rfl <| slm one_3 rfl (hps.rd S (by omega) (by omega)) <| sr 3 rfl <| sg 8 8 29 37 true rfl rfl (fun hg9 => by
       have hq9 := hg9;try simp only [o1,o2,o3,o4,o5,o6,o7,o8,o9,oa] at hq9
       exact sy hg9 <| sf fo_25_1 rfl <| sy hg9 <| sl S 1 one_22 rfl rfl rfl <| sy hg9 <| sr 1 rfl <| sy hg9 <| si sl_22 sz_45 rfl rfl (hps.adr (by omega)) (by omega) <| sy hg9 <| sp fo_45_5 rfl <| sy hg9 <| slm one_3 rfl (hps.rd S (by omega) (by omega)) <| sy hg9 <| sr 1 rfl <| sy hg9 <| sr 1 rfl <| sz 8 rfl rfl rfl) <| sa rfl rfl rfl <| sr 1 rfl <| sg 4 18 39 43 true rfl rfl (fun hg19 => by
       have hq19 := hg19;try simp only [o1,o2,o3,o4,o5,o6,o7,o8,o9,oa] at hq19
       exact sy hg19 <| sr 1 rfl <| sy hg19 <| sr 1 rfl <| sy hg19 <| sc rfl Try.func84 rfl rfl (ref_isOut _ _ _ (by omega)) <| sy hg19 <| sr 1 rfl <| sz 4 rfl rfl rfl) <| sa rfl rfl rfl <| sE ?_;clear H a;intro a H
   refine k14 _ ?_;clear k14 K14
   refine cond_ H rfl (fun hc3 => ?_) (fun hc3 => ?_)
   ·skip
    simp only [o1,o2,o3,o4,o5,o6,o7,o8,o9,oa,Int.toNat_natCast] at hc3
    have hwl : wl.length ≤ 24 * m + 24 := by rw [hW, List.length_append]; have h1 := machL_len (ps := ps) (out := out) (kind := kind) hp24 m; have h2 := machR_len (ps := ps) (out := out) (kind := kind) (m := m) i; omega
    replace H := H.keep [1, 2, 3, 7, 8, 9] rfl
    refine one_list ?_
    refine ls 2 H <| sr 2 rfl <| sE ?_;clear H a;intro a H
    refine list_build' H rfl S sl_23 sz_3 ze_3 rfl rfl rfl rfl rfl rfl rfl rfl rfl ?_;clear H a S;intro A1 _ a hA1 S H
    refine list_append H rfl S sl_23 sz_3 ze_3 by_3 rfl rfl (i := 1) rfl rfl rfl (ownM.inS S (i := 0) rfl) (one_vs (one rfl)) (by omega) (by omega) ?_;clear H a S;intro A2 c2 _ a S H
    replace S := S.recell (i := 1) rfl (cell' := wcl (wl ++ [m])) (fun k j hk hj => wcl_snoc rfl k j hk hj)
    rw [show wl.length + 1 = (wl ++ [m]).length by simp] at H S
    refine ls 1 H <| sr 1 rfl <| sE ?_;clear H a;intro a H
    refine k13 _ _ ?_
    refine sO H <| sr 1 rfl <| sd (does_add rfl rfl (by unfold i64ok; omega)) <| sr 1 rfl <| sE ?_;clear H a;intro a H
    exact k10 (g2 - 1) (i + 1, _, _, _) a _ (by omega) (by first | exact ⟨by omega, by omega, machR_yes hW (machB_t hc3)⟩ | exact ⟨by omega, by omega, machR_no hW (machB_f hc3)⟩) (S.sel [1, 2] rfl rfl) (H.keep [7, 9, 1, 2, 3, 8] rfl)
   simp only [o1,o2,o3,o4,o5,o6,o7,o8,o9,oa,Int.toNat_natCast] at hc3
   refine wp_skip ?_
   refine k13 _ _ ?_
   replace H := H.keep [1, 2, 3, 7, 8, 9] rfl
   refine sO H <| sr 1 rfl <| sd (does_add rfl rfl (by unfold i64ok; omega)) <| sr 1 rfl <| sE ?_;clear H a;intro a H
   exact k10 (g2 - 1) (i + 1, _, _, _) a _ (by omega) (by first | exact ⟨by omega, by omega, machR_yes hW (machB_t hc3)⟩ | exact ⟨by omega, by omega, machR_no hW (machB_f hc3)⟩) (S.sel [0, 1] rfl rfl) (H.keep [7, 9, 1, 2, 3, 8] rfl)
  refine wp_exit ?_
  refine k8 _ _ ?_
  refine sO H <| sr 1 rfl <| sd (does_add rfl rfl (by unfold i64ok; omega)) <| sr 1 rfl <| sE ?_;clear H a;intro a H
  exact k5 (g1 - 1) (m + 1, _, _, _) a _ (by omega) (⟨by omega, by omega, by rw [hW, show i = ps.length by omega]; rfl⟩) (S.sel [0, 1] rfl rfl) (H.keep [7, 8, 1, 2, 3] rfl)
 refine wp_exit ?_
 refine k3 _ _ ?_
 refine sS H fun K19 k19=>sr 2 rfl <| sE ?_;clear H a;intro a H
 refine k19 _ ?_;clear k19 K19
 refine wp_ret ?_
 refine ret1 (fn := Try.f62) rfl H rfl ?_
 obtain rfl : m = 12 := by omega
 subst hW0
 exact ⟨_, _, rfl, (S.sel [0] rfl rfl)⟩

end Go.Proofs.Ytlmddkekeoebcaa
