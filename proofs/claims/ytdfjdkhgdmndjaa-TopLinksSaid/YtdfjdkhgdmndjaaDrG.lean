/- DrG. Printed by gen.py. -/
import Derived.Test.YtdfjdkhgdmndjaaDrF
namespace Go.Proofs.Ytdfjdkhgdmndjaa
open Go.RowKit
set_option linter.unusedVariables false
set_option linter.unusedSimpArgs false
set_option maxRecDepth 100000
set_option maxHeartbeats 4000000


def playO (e : Esc) (s : Stp) (l : List Int) : Except Int (List Int) := if stopE e s ≠ 0 then .error (stopE e s) else if histB s.lo s.hi l = true then .ok (playI e s s.speed 0 l) else .error 1
def IntsR (w : World) (o : Except Int (List Int)) (v : Value) (w' : World) : Prop := match o with
  | .error e => v = .tuple #[.slice none 0 0, .int .i64 e] ∧ St w noF [] w'
  | .ok ks => ∃ A' c', v = .tuple #[.slice A' ks.length c', .int .i64 0] ∧ St w noF [ownM 3 1 A' ks.length c' (icl ks)] w'
theorem play_err {e : Esc} {s : Stp} {l : List Int} (h : ¬ stopE e s = 0) : playO e s l = .error (stopE e s) := by unfold playO; exact if_pos h
theorem play_bad {e : Esc} {s : Stp} {l : List Int} (h : stopE e s = 0) (h2 : (100 : Int) < l.length ∨ l.any (fun x => !(decide (s.lo ≤ x) && decide (x ≤ s.hi))) = true) : playO e s l = .error 1 := by
  unfold playO
  rw [if_neg (by omega), if_neg]
  intro h3
  unfold histB at h3
  simp only [Bool.and_eq_true, decide_eq_true_eq, List.all_eq_true] at h3
  rcases h2 with h2 | h2
  · omega
  · obtain ⟨x, hx, h4⟩ := List.any_eq_true.1 h2
    have := h3.1 x hx
    simp at h4
    omega
theorem hist_of {lo hi : Int} {l : List Int} (h1 : (l.length : Int) ≤ 100) (h2 : l.any (fun x => !(decide (lo ≤ x) && decide (x ≤ hi))) = false) : histB lo hi l = true ∧ ∀ k, k < l.length → lo ≤ l.getD k 0 ∧ l.getD k 0 ≤ hi := by
  have h3 : ∀ x ∈ l, lo ≤ x ∧ x ≤ hi := fun x hx => by
    have h4 : (!(decide (lo ≤ x) && decide (x ≤ hi))) = false := by
      cases hq : (!(decide (lo ≤ x) && decide (x ≤ hi))) with
      | false => rfl
      | true => rw [List.any_eq_true.2 ⟨x, hx, hq⟩] at h2; cases h2
    simpa using h4
  refine ⟨?_, fun k hk => ?_⟩
  · unfold histB
    simp only [Bool.and_eq_true, decide_eq_true_eq, List.all_eq_true]
    exact ⟨h3, by omega⟩
  · rw [List.getD_eq_getElem?_getD, List.getElem?_eq_getElem hk]
    exact h3 _ (List.getElem_mem hk)
theorem play_ok {e : Esc} {s : Stp} {l : List Int} (h : stopE e s = 0) (h2 : histB s.lo s.hi l = true) : playO e s l = .ok (playI e s s.speed 0 l) := by
  unfold playO
  rw [if_neg (by omega), if_pos h2]


theorem drv_Play (up : Bool) (empty pull drag motor : Int) (br : List Brake) (BA : Option Addr) (bcp : Nat) (sp slo shi sfail : Int) (l : List Int) (A : Option Addr) (cp : Nat) (w : World) (hb : InS w noF 2 BA br.length (bcell br)) (hbn : br.length ≤ 9223372036854775807) (hl : InS w noF 1 A l.length (icl l)) (hn : l.length ≤ 9223372036854775807) :
    Calls Try.prog 14 [.agg [.bool up, .int .i64 empty, .int .i64 pull, .int .i64 drag, .int .i64 motor, .slice BA br.length bcp].toArray, .agg [.int .i64 sp, .int .i64 slo, .int .i64 shi, .int .i64 sfail].toArray, .slice A l.length cp].toArray w (Ret (IntsR w (playO (⟨up, empty, pull, drag, motor, br⟩ : Esc) (⟨sp, slo, shi, sfail⟩ : Stp) l))) := by
 have hmx : maxLen = 9223372036854775807 := rfl
 refine enter Try.func14 rfl Try.ntmps14 rfl (fun a H => ?_)
 have S := St.start w
 refine seq_list fun K1 k1 => ?_
 refine list_box H rfl S rfl rfl ?_;clear H a S;intro b3 _ a hb3 hbw3 S H
 refine list_box H rfl S rfl rfl ?_;clear H a S;intro b4 _ a hb4 hbw4 S H
 refine ls 2 H <| sr 2 rfl <| sE ?_;clear H a;intro a H
 refine k1 _ _ ?_;clear k1 K1
 refine wp_seq_k fun K2 k2 => ?_
 refine seq_list fun K3 k3 => ?_
 refine ls 2 H <| sd ((does_loadBox agg_29 sz_29 rfl S (i := 1) rfl rfl)) <| sd ((does_loadBox agg_33 sz_33 rfl S (i := 0) rfl rfl)) <| sE ?_;clear H a;intro a H
 refine list_call H rfl rfl Try.func31 rfl rfl (drv_checkStop up empty pull drag motor br BA bcp sp slo shi sfail _ (hb.now S) hbn) ?_;clear H a
 rintro _ _ a ⟨rfl, S2⟩ H
 replace S := S.call S2;clear S2
 refine ls 1 H <| sr 1 rfl <| sE ?_;clear H a;intro a H
 refine k3 _ _ ?_;clear k3 K3
 replace H := H.keep [2, 3, 4, 8] rfl
 refine sS H fun K4 k4=>sr 2 rfl <| sE ?_;clear H a;intro a H
 refine k4 _ ?_;clear k4 K4
 refine condN H rfl (fun hc1 => ?_) (fun hc1 => ?_)
 ·skip
  have hce := hc1
  refine sS H fun K5 k5=>sr 3 rfl <| sE ?_;clear H a;intro a H
  refine k5 _ ?_;clear k5 K5
  refine wp_ret ?_
  refine ret2 (fn := Try.f14) rfl H rfl rfl ?_
  rw [play_err hce]; exact ⟨rfl, (S.sel [] rfl rfl)⟩
 have hce := hc1
 refine wp_skip ?_
 refine k2 _ _ ?_
 refine wp_seq_k fun K6 k6 => ?_
 replace H := H.keep [2, 3, 4] rfl
 refine seq_list fun K7 k7 => ?_
 refine ls 4 H <| sr 1 rfl <| sL sl_36 rfl <| sr 2 rfl <| sE ?_;clear H a;intro a H
 apply list_guard (i := 3) (g := 22) (t := 25) (b := false) 3 H S rfl rfl (by kernel_rfl) (by kernel_rfl) rfl rfl
 case h1 =>
  intro hg4
  refine ls 2 H <| sy hg4 <| sr 1 rfl <| sy hg4 <| sr 1 rfl <| sE ?_;intro a H
  refine list_yes' H rfl rfl (by assumption) ?_
  have S1 := (S.sel [0] rfl rfl)
  refine list_call H rfl rfl Try.func33 rfl rfl (drv_ContainsFunc l A cp sp slo shi sfail b4 _ _ S1.startR (hl.nowR S1) hn) ?_;clear H a
  rintro _ _ a ⟨rfl, S2⟩ H
  replace S := (S.sel [0, 1] rfl rfl).callR (M := [_]) S2; clear S1 S2
  exact wpList_nil ⟨H.strip 3 rfl rfl, (S.sel [0, 1] rfl rfl)⟩
 clear H a S;intro a _ H S
 refine ls 1 H <| so rfl rfl rfl <| sE ?_;clear H a;intro a H
 refine k7 _ _ ?_;clear k7 K7
 refine cond_ H rfl (fun hc2 => ?_) (fun hc2 => ?_)
 ·skip
  try simp only [o1,o2,o3,o4,o5,o6,o7,o8,o9,oa] at hc2
  replace H := H.keep [] rfl
  refine sS H fun K8 k8=>sr 2 rfl <| sE ?_;clear H a;intro a H
  refine k8 _ ?_;clear k8 K8
  refine wp_ret ?_
  refine ret2 (fn := Try.f14) rfl H rfl rfl ?_
  rw [play_bad hce (by simpa using hc2)]; exact ⟨rfl, (S.sel [] rfl rfl)⟩
 try simp only [o1,o2,o3,o4,o5,o6,o7,o8,o9,oa] at hc2
 refine wp_skip ?_
 refine k6 _ _ ?_
 obtain ⟨hesc, hstp⟩ := stop_ok hce
 obtain ⟨hh1, hh2⟩ := hist_of (lo := slo) (hi := shi) (l := l) (by simp at hc2; omega) (by simp at hc2 ⊢; exact hc2.2)
 refine seq_list fun K9 k9 => ?_
 refine ls 5 H <| sd ((does_loadBox agg_29 sz_29 rfl S (i := 1) rfl rfl)) <| sd ((does_loadBox agg_33 sz_33 rfl S (i := 0) rfl rfl)) <| sf fo_33_0 rfl <| sl S 0 one_3 rfl rfl rfl <| sd (does_build bt_92 rfl rfl) <| sE ?_;clear H a;intro a H
 refine list_alloc H rfl S ze_92 ?_;clear H a S;intro b9 _ a hb9 hbw9 S H
 refine list_store H S (i := 0) rfl rfl rfl rfl sz_92 rfl rfl ?_
 clear H a S;intro _ a S H
 refine k9 _ _ ?_;clear k9 K9
 replace H := H.keep [2, 9] rfl
 refine sS H fun K10 k10=>sr 1 rfl <| sE ?_;clear H a;intro a H
 refine k10 _ ?_;clear k10 K10
 refine wp_seq_k fun K11 k11 => ?_
 refine sS H fun K12 k12=>sr 1 rfl <| sL sl_36 rfl <| sr 1 rfl <| sE ?_;clear H a;intro a H
 refine k12 _ ?_;clear k12 K12
 refine wp_block ?_
 replace S := S.newNil 3 1 (fun q _ => .int .i64 (spd (⟨up, empty, pull, drag, motor, br⟩ : Esc) (⟨sp, slo, shi, sfail⟩ : Stp) l (q + 1)))
 refine loop_st (X := Nat × Option Addr × Nat) (R0 := _) [9, 32, 33] H rfl (fun ⟨k, A', c'⟩ => [(10, .slice A' k c'), (34, .int .i64 (k : Int))]) (fun ⟨k, A', c'⟩ => [boxM b9 92 [.bool up, .int .i64 empty, .int .i64 pull, .int .i64 drag, .int .i64 motor, .slice BA br.length bcp, .int .i64 sp, .int .i64 slo, .int .i64 shi, .int .i64 sfail, .int .i64 ((spd (⟨up, empty, pull, drag, motor, br⟩ : Esc) (⟨sp, slo, shi, sfail⟩ : Stp) l k)), .int .i64 (k : Int)], ownM 3 1 A' k c' (fun q _ => .int .i64 (spd (⟨up, empty, pull, drag, motor, br⟩ : Esc) (⟨sp, slo, shi, sfail⟩ : Stp) l (q + 1)))]) (fun g ⟨k, A', c'⟩ => k ≤ l.length ∧ g + k = l.length) (l.length) (0, none, 0) ?_ (S.sel [1, 0, 2, 3] rfl rfl) (H.keep [10, 34, 9, 32, 33] rfl) ?_
 · exact ⟨by omega, by omega⟩
 clear H S a
 intro g1 x1 a w1 hp S H K13 k13
 obtain ⟨k, A', c'⟩ := x1
 dsimp only at hp S H
 refine sS H fun K14 k14=>sr 1 rfl <| sE ?_;clear H a;intro a H
 refine k14 _ ?_;clear k14 K14
 refine wp_seq_k fun K15 k15 => ?_
 refine condL H rfl (fun hc3 => ?_) (fun hc3 => ?_)
 ·skip
  refine wp_skip ?_
  refine k15 _ _ ?_
  refine wp_seq_k fun K16 k16 => ?_
  refine wp_block ?_
  refine sS H fun K17 k17=>si sl_36 sz_3 rfl rfl (hl.adr (by omega)) (by omega) <| slm one_3 rfl (hl.rd S (by omega) (by omega)) <| sr 1 rfl <| sE ?_;clear H a;intro a H
  refine k17 _ ?_;clear k17 K17
  have hh3 := hh2 k (by omega)
  have hsb := spd_bd hesc hstp hh2 k (by omega)
  replace H := H.keep [9, 10, 12, 32, 33, 34] rfl
  refine one_list ?_
  refine ls 2 H <| sr 2 rfl <| sE ?_;clear H a;intro a H
  have S1 := (S.sel [0] rfl rfl)
  refine list_call H rfl rfl Try.func36 rfl rfl (drv_with up empty pull drag motor br BA bcp sp slo shi sfail b9 (spd (⟨up, empty, pull, drag, motor, br⟩ : Esc) (⟨sp, slo, shi, sfail⟩ : Stp) l k) k (l.getD k 0) _ _ S1.startR (hb.nowR S1) hesc hstp (by omega) (by omega) (by omega)) ?_;clear H a
  rintro _ _ a ⟨rfl, S2⟩ H
  replace S := (S.sel [0, 1, 2, 3] rfl rfl).callR (M := [_]) S2; clear S1 S2
  refine list_build' H rfl S sl_36 sz_3 ze_3 rfl rfl rfl rfl rfl rfl rfl rfl rfl ?_;clear H a S;intro A1 _ a hA1 S H
  refine list_append H rfl S sl_36 sz_3 ze_3 by_3 rfl rfl (i := 2) rfl rfl rfl (ownM.inS S (i := 0) rfl) (one_vs (one rfl)) (by omega) (by omega) ?_;clear H a S;intro A2 c2 _ a S H
  replace S := S.recell (i := 2) rfl (cell' := (fun q _ => .int .i64 (spd (⟨up, empty, pull, drag, motor, br⟩ : Esc) (⟨sp, slo, shi, sfail⟩ : Stp) l (q + 1)))) (capp_one (one rfl))
  refine ls 1 H <| sr 1 rfl <| sE ?_;clear H a;intro a H
  refine k16 _ _ ?_
  refine sO H <| sd (does_add rfl rfl (by unfold i64ok; omega)) <| sr 1 rfl <| sE ?_;clear H a;intro a H
  exact k13 (g1 - 1) (k + 1, _, _) a _ (by omega) (⟨by omega, by omega⟩) (S.sel [1, 2, 3, 4] rfl rfl) (H.keep [10, 34, 9, 32, 33] rfl)
 refine wp_exit ?_
 refine k11 _ _ ?_
 replace H := H.keep [10] rfl
 refine sS H fun K20 k20=>sr 3 rfl <| sE ?_;clear H a;intro a H
 refine k20 _ ?_;clear k20 K20
 refine wp_ret ?_
 refine ret2 (fn := Try.f14) rfl H rfl rfl ?_
 have hk9 : k = l.length := by omega
 subst hk9
 rw [play_ok hce hh1]
 replace S := S.recell (i := 1) rfl (cell' := icl (playI (⟨up, empty, pull, drag, motor, br⟩ : Esc) (⟨sp, slo, shi, sfail⟩ : Stp) sp 0 l)) (fun q j hq _ => congrArg (Value.int .i64) (play_at (e := (⟨up, empty, pull, drag, motor, br⟩ : Esc)) (s := (⟨sp, slo, shi, sfail⟩ : Stp)) hq).symm)
 show ∃ A' c', _ ∧ _
 rw [show (playI (⟨up, empty, pull, drag, motor, br⟩ : Esc) (⟨sp, slo, shi, sfail⟩ : Stp) sp 0 l).length = l.length from play_len]
 exact ⟨A', c', rfl, (S.sel [1] rfl rfl)⟩

end Go.Proofs.Ytdfjdkhgdmndjaa
