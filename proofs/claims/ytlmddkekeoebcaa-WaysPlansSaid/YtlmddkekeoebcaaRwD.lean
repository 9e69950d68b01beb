/- RwD. Printed by gen.py. -/
import Derived.Test.YtlmddkekeoebcaaRwC
namespace Go.Proofs.Ytlmddkekeoebcaa
open Go.RowKit
set_option linter.unusedVariables false
set_option linter.unusedSimpArgs false
set_option maxRecDepth 100000
set_option maxHeartbeats 4000000


theorem need_ok {pl : Int} {ps : List Psg} {xs : List Int} {out : Int} {help : Bool} {fr to : Int} {i : Nat} {wl : List Nat} (h9 : (wayV pl ps xs out help fr to).2.2 = 0) (hi : (machL ps out 4 12).length ≤ i) (hw : wl = ((machL ps out 4 12).take i).filter (fun m => decide (dst pl.toNat ps (out + 2 ^ m) help to.toNat fr.toNat < 0))) : needV pl ps xs out help fr to = (toI wl, 0) := by
  have h := fun h => wayV_err.2 h h9
  have h1 : askE pl ps xs out [fr, to] = 0 := by
    by_cases e : askE pl ps xs out [fr, to] = 0
    · exact e
    · exact absurd (.inl e) h
  have h2 : ¬ dst pl.toNat ps out help to.toNat fr.toNat < 0 := fun e => h (.inr e)
  obtain ⟨hst, hou, hpl⟩ := askE_ok h1
  have hV := st_valid hst
  have hP := hV.size
  have hfr : 0 ≤ fr ∧ fr ≤ pl - 1 := hpl 0 (show 0 < 2 by omega)
  have hto : 0 ≤ to ∧ to ≤ pl - 1 := hpl 1 (show 1 < 2 by omega)
  have hV' : StV (pl.toNat : Int) ps xs := by rw [Int.toNat_of_nonneg (by omega)]; exact hV
  unfold needV
  rw [if_neg (by omega), if_neg h2, hw, List.take_of_length_le hi, need_same hV' hou.1 (by omega) (by omega) (by omega) 12 (Nat.le_refl _)]


theorem ref_Needed (pl : Int) (ps : List Psg) (PA : Option Addr) (pc : Nat) (xs : List Int) (XA : Option Addr) (xc : Nat) (out : Int) (help : Bool) (fr to : Int) (w : World) (hps : InS w noF 7 PA ps.length (pcell ps)) (hpn : ps.length ≤ 9223372036854775807) (hxs : InS w noF 1 XA xs.length (icl xs)) (hxn : xs.length ≤ 9223372036854775807) :
    Calls Try.prog 25 [.agg [.int .i64 pl, .slice PA ps.length pc, .slice XA xs.length xc].toArray, .int .i64 out, .bool help, .int .i64 fr, .int .i64 to].toArray w (Ret (fun u w' => ∃ A c, u = .tuple #[.slice A (needV pl ps xs out help fr to).1.length c, .int .i64 (needV pl ps xs out help fr to).2] ∧ St w noF [ownM 3 1 A (needV pl ps xs out help fr to).1.length c (icl (needV pl ps xs out help fr to).1)] w')) := by
 refine enter Try.func25 rfl Try.ntmps25 rfl (fun a H => ?_)
 have S := St.start w
 refine seq_list fun K1 k1 => ?_
 refine list_box H rfl S rfl rfl ?_;clear H a S;intro b5 _ a hb5 hbw5 S H
 refine ls 2 H <| sr 2 rfl <| sE ?_;clear H a;intro a H
 refine k1 _ _ ?_;clear k1 K1
 replace H := H.keep [1, 2, 3, 4, 5] rfl
 refine seq_list fun K2 k2 => ?_
 refine ls 5 H <| sd ((does_loadBox agg_25 sz_25 rfl S (i := 0) rfl rfl)) <| sr 4 rfl <| sE ?_;clear H a;intro a H
 refine list_call H rfl rfl Try.func22 rfl rfl (ret_imp (ref_Way pl ps PA pc xs XA xc out help fr to _ (hps.now S) hpn (hxs.now S) hxn) (fun u w' h => way_form h)) ?_;clear H a
 rintro _ _ a ⟨A5, c5, rfl, hdo, S2⟩ H
 replace S := S.call S2;clear S2
 refine ls 7 H <| sr 7 rfl <| sE ?_;clear H a;intro a H
 refine k2 _ _ ?_;clear k2 K2
 refine wp_seq_k fun K3 k3 => ?_
 replace H := H.keep [1, 2, 3, 4, 5, 14] rfl
 refine sS H fun K4 k4=>sr 2 rfl <| sE ?_;clear H a;intro a H
 refine k4 _ ?_;clear k4 K4
 refine condN H rfl (fun hc1 => ?_) (fun hc1 => ?_)
 ·skip
  refine sS H fun K5 k5=>sr 3 rfl <| sE ?_;clear H a;intro a H
  refine k5 _ ?_;clear k5 K5
  refine wp_ret ?_
  refine ret2 (fn := Try.f25) rfl H rfl rfl ?_
  rw [needV_err hc1]
  exact ⟨none, 0, rfl, (S.sel [] rfl rfl).newNil _ _ _⟩
 have hw0 := fun h => wayV_err.2 h hc1
 have hask : askE pl ps xs out [fr, to] = 0 := by
   by_cases e : askE pl ps xs out [fr, to] = 0
   · exact e
   · exact absurd (.inl e) hw0
 obtain ⟨hst, hou, hpl⟩ := askE_ok hask
 have hV := st_valid hst
 refine wp_skip ?_
 refine k3 _ _ ?_
 refine sS H fun K6 k6=>sr 1 rfl <| sE ?_;clear H a;intro a H
 refine k6 _ ?_;clear k6 K6
 replace H := H.keep [1, 2, 3, 4, 5, 15] rfl
 refine seq_list fun K7 k7 => ?_
 refine ls 2 H <| sd ((does_loadBox agg_25 sz_25 rfl S (i := 1) rfl rfl)) <| sr 1 rfl <| sE ?_;clear H a;intro a H
 refine list_call H rfl rfl Try.func62 rfl rfl (ref_machines pl ps PA pc xs XA xc out 4 _ (hps.now S) hpn (hxs.now S) hxn hV.size.2.2) ?_;clear H a
 rintro _ _ a ⟨A6, c6, rfl, S2⟩ H
 replace S := S.call S2;clear S2
 refine ls 1 H <| sr 1 rfl <| sE ?_;clear H a;intro a H
 refine k7 _ _ ?_;clear k7 K7
 refine wp_seq_k fun K8 k8 => ?_
 refine sS H fun K9 k9=>sr 1 rfl <| sE ?_;clear H a;intro a H
 refine k9 _ ?_;clear k9 K9
 refine wp_block ?_
 replace S := S.newNil 3 1 (wcl [])
 refine loop_st (X := Nat × List Nat × Option Addr × Nat) (R0 := _) [1, 2, 3, 4, 5, 16] H rfl (fun ⟨i, wl, A9, c9⟩ => [(15, .slice A9 wl.length c9), (17, .int .i64 (i : Int))]) (fun ⟨i, wl, A9, c9⟩ => [ownM 3 1 A9 wl.length c9 (wcl wl)]) (fun g ⟨i, wl, A9, c9⟩ => i ≤ (machL ps out 4 12).length ∧ g + i = (machL ps out 4 12).length ∧ wl = ((machL ps out 4 12).take i).filter (fun m => decide (dst pl.toNat ps (out + 2 ^ m) help to.toNat fr.toNat < 0))) ((machL ps out 4 12).length) (0, [], none, 0) ?_ (S.sel [0, 1, 2, 3] rfl rfl) (H.keep [15, 17, 1, 2, 3, 4, 5, 16] rfl) ?_
 · exact ⟨by omega, by omega, rfl⟩
 clear H S a
 intro g1 x1 a w1 hp S H K10 k10
 obtain ⟨i, wl, A9, c9⟩ := x1
 dsimp only at hp S H
 obtain ⟨hil, hgi, hW⟩ := hp
 have hml9 := machL_len (ps := ps) (out := out) (kind := 4) hV.size.2.2 12
 refine wp_seq_k fun K11 k11 => ?_
 refine sS H fun K12 k12=>sr 2 rfl <| sL sl_23 rfl <| sr 1 rfl <| sE ?_;clear H a;intro a H
 refine k12 _ ?_;clear k12 K12
 refine condL H rfl (fun hc2 => ?_) (fun hc2 => ?_)
 ·skip
  refine wp_skip ?_
  refine k11 _ _ ?_
  refine wp_seq_k fun K13 k13 => ?_
  refine wp_block ?_
  have hmi := machL_in (ps := ps) (out := out) (kind := 4) 12 _ (getD_in (show i < (machL ps out 4 12).length by omega))
  have hpw := pw_le (m := (machL ps out 4 12).getD i 0) hmi.1
  replace H := H.keep [1, 2, 3, 4, 5, 15, 16, 17] rfl
  replace S := S.drew
  refine seq_wq [(0, true), (1, true), (2, true), (3, true), (4, true), (5, true), (6, true), (7, true), (8, true), (9, true), (10, true), (11, true), (12, false), (13, true), (14, true), (15, true), (16, true), (17, true), (18, true), (19, true)] (by kernel_rfl) (by kernel_rfl) (S.sel [0, 1, 2, 3] rfl rfl) fun K14 k14 => ?_
  refine qF H <| qd rfl (fun _ S => (does_loadBox agg_25 sz_25 rfl S (i := 3) rfl rfl)) <| qr 3 rfl <| qd rfl (fun _ S => does_indexN sl_23 sz_3 rfl rfl (ownM.adr S (i := 1) rfl (by omega)) (by omega)) <| qd rfl (fun _ S => does_load one_3 rfl (ownM.rd S (i := 1) rfl (by omega) (by omega))) <| qd rfl (fun _ S => does_convert Try.underlying3 Try.underlying78 rfl (by first | omega | exact IntWalk.i64_in _ (by omega) | exact IntWalk.u64_in _ (by omega))) <| qd rfl (fun _ S => does_shl rfl rfl (by omega) (by omega) (by unfold i64ok; omega)) <| qd rfl (fun _ S => does_add rfl rfl (by unfold i64ok; omega)) <| qr 3 rfl <| qK ?_;clear H a;intro a H
  refine wq_eff rfl ?_
  refine list_call H rfl rfl Try.func22 rfl rfl (ret_imp (ref_Way pl ps PA pc xs XA xc (out + 1 * 2 ^ (((machL ps out 4 12).getD i 0 : Nat) : Int).toNat) help fr to _ (hps.now S) hpn (hxs.now S) hxn) (fun u w' h => way_form h)) ?_;clear H a
  rintro _ _ a ⟨A8, c8, rfl, _, S2⟩ H
  replace S := S.call S2;clear S2
  simp only [Int.one_mul, Int.toNat_natCast] at H S
  refine wpList_nil (And.intro (S.sel [1, 2, 3, 4] rfl rfl) ?_)
  refine qF H <| qr 7 rfl <| qK ?_;clear H a;intro a H
  refine wq_nil ?_
  refine k14 _ _ ?_
  clear k14 K14
  replace H := H.keep [1, 2, 3, 4, 5, 15, 16, 17, 20] rfl
  refine sS H fun K15 k15=>sr 2 rfl <| sE ?_;clear H a;intro a H
  refine k15 _ ?_;clear k15 K15
  refine condN H rfl (fun hc3 => ?_) (fun hc3 => ?_)
  ·skip
   have hw1 := (wayV_out (help := help) hask hmi.1 hmi.2).1 hc3
   have hwl : wl.length ≤ i := by rw [hW]; exact filt_len
   replace H := H.keep [1, 2, 3, 4, 5, 15, 16, 17] rfl
   refine one_list ?_
   refine ls 5 H <| sr 3 rfl <| si sl_23 sz_3 rfl rfl (ownM.adr S (i := 2) rfl (by omega)) (by omega) <| slm one_3 rfl (ownM.rd S (i := 2) rfl (by omega) (by omega)) <| sE ?_;clear H a;intro a H
   refine list_build' H rfl S sl_23 sz_3 ze_3 rfl rfl rfl rfl rfl rfl rfl rfl rfl ?_;clear H a S;intro A1 _ a hA1 S H
   refine list_append H rfl S sl_23 sz_3 ze_3 by_3 rfl rfl (i := 2) rfl rfl rfl (ownM.inS S (i := 0) rfl) (one_vs (one rfl)) (by omega) (by omega) ?_;clear H a S;intro A2 c2 _ a S H
   replace S := S.recell (i := 2) rfl (cell' := wcl (wl ++ [(machL ps out 4 12).getD i 0])) (fun k j hk hj => wcl_snoc rfl k j hk hj)
   rw [show wl.length + 1 = (wl ++ [(machL ps out 4 12).getD i 0]).length by simp] at H S
   refine ls 1 H <| sr 1 rfl <| sE ?_;clear H a;intro a H
   refine k13 _ _ ?_
   replace H := H.keep [1, 2, 3, 4, 5, 15, 16, 17] rfl
   refine sO H <| sr 1 rfl <| sd (does_add rfl rfl (by unfold i64ok; omega)) <| sr 1 rfl <| sE ?_;clear H a;intro a H
   exact k10 (g1 - 1) (i + 1, _, _, _) a _ (by omega) (by first | exact ⟨by omega, by omega, filt_yes hW (by omega) (decide_eq_true hw1)⟩ | exact ⟨by omega, by omega, filt_no hW (by omega) (decide_eq_false hw1)⟩) (S.sel [2, 3, 4, 5] rfl rfl) (H.keep [15, 17, 1, 2, 3, 4, 5, 16] rfl)
  have hw1 := mt (wayV_out (help := help) hask hmi.1 hmi.2).2 (by omega)
  refine wp_skip ?_
  refine k13 _ _ ?_
  refine sO H <| sr 1 rfl <| sd (does_add rfl rfl (by unfold i64ok; omega)) <| sr 1 rfl <| sE ?_;clear H a;intro a H
  exact k10 (g1 - 1) (i + 1, _, _, _) a _ (by omega) (by first | exact ⟨by omega, by omega, filt_yes hW (by omega) (decide_eq_true hw1)⟩ | exact ⟨by omega, by omega, filt_no hW (by omega) (decide_eq_false hw1)⟩) (S.sel [1, 2, 3, 4] rfl rfl) (H.keep [15, 17, 1, 2, 3, 4, 5, 16] rfl)
 refine wp_exit ?_
 refine k8 _ _ ?_
 refine sS H fun K19 k19=>sr 3 rfl <| sE ?_;clear H a;intro a H
 refine k19 _ ?_;clear k19 K19
 refine wp_ret ?_
 refine ret2 (fn := Try.f25) rfl H rfl rfl ?_
 rw [need_ok hc1 (by omega) hW]
 dsimp only
 rw [toI_len, ← wcl_icl]
 exact ⟨_, _, rfl, (S.sel [0] rfl rfl)⟩

end Go.Proofs.Ytlmddkekeoebcaa
