/- LwA. Printed by gen.py. -/
import Derived.Test.YtlmddkekeoebcaaRwW
import Derived.Test.YtlmddkekeoebcaaTree
import Derived.Test.YtlmddkekeoebcaaSame
namespace Go.Proofs.Ytlmddkekeoebcaa
open Go.RowKit
set_option linter.unusedVariables false
set_option linter.unusedSimpArgs false
set_option maxRecDepth 100000
set_option maxHeartbeats 4000000


theorem ap_form {e : Int} {D : Int → Int → Int} {l : List Int} {u : Value} {Q : Prop} (h : apartV e D l u ∧ Q) : ∃ x y b z, u = .tuple #[.int .i64 x, .int .i64 y, .bool b, .int .i64 z] ∧ apartV e D l (.tuple #[.int .i64 x, .int .i64 y, .bool b, .int .i64 z]) ∧ Q := by
  obtain ⟨h, q⟩ := h
  have h' := h
  rcases h with ⟨_, rfl⟩ | ⟨_, ⟨i, k, _, _, _, _, _, rfl⟩ | ⟨_, rfl⟩⟩
  · exact ⟨_, _, _, _, rfl, h', q⟩
  · exact ⟨_, _, _, _, rfl, h', q⟩
  · exact ⟨_, _, _, _, rfl, h', q⟩
theorem ap_same {x y z x' y' z' : Int} {b b' : Bool} (h : Value.tuple #[.int .i64 x, .int .i64 y, .bool b, .int .i64 z] = .tuple #[.int .i64 x', .int .i64 y', .bool b', .int .i64 z']) : x' = x ∧ y' = y ∧ b' = b ∧ z' = z := by
  simp at h
  exact ⟨h.1.symm, h.2.1.symm, h.2.2.1.symm, h.2.2.2.symm⟩


theorem law_WaysParts (pl : Int) (ps : List Psg) (PA : Option Addr) (pc : Nat) (xs : List Int) (XA : Option Addr) (xc : Nat) (out : Int) (help : Bool) (fr to : Int) (l : List Int) (LA : Option Addr) (lc : Nat) (w : World) (hps : InS w noF 7 PA ps.length (pcell ps)) (hpn8 : 56 * ps.length ≤ 140737488355328) (hxs : InS w noF 1 XA xs.length (icl xs)) (hxn8 : 8 * xs.length ≤ 140737488355328) (hl : InS w noF 1 LA l.length (icl l)) (hl8 : 8 * l.length ≤ 140737488355328) :
    Calls Try.prog 3 [.agg [.int .i64 pl, .slice PA ps.length pc, .slice XA xs.length xc].toArray, .agg [.int .i64 out, .bool help, .int .i64 fr, .int .i64 to].toArray, .slice LA l.length lc].toArray w (Ret (fun u w' => u = .bool true ∧ St w noF [] w')) := by
 have hpn : ps.length ≤ 9223372036854775807 := by omega
 have hxn : xs.length ≤ 9223372036854775807 := by omega
 have hln : l.length ≤ 9223372036854775807 := by omega
 refine enter Try.func3 rfl Try.ntmps3 rfl (fun a H => ?_)
 have S := St.start w
 refine seq_list fun K1 k1 => ?_
 refine list_box H rfl S rfl rfl ?_;clear H a S;intro b3 _ a hb3 hbw3 S H
 refine list_box H rfl S rfl rfl ?_;clear H a S;intro b4 _ a hb4 hbw4 S H
 refine ls 1 H <| sr 1 rfl <| sE ?_;clear H a;intro a H
 refine k1 _ _ ?_;clear k1 K1
 refine wp_seq_k fun K2 k2 => ?_
 replace H := H.keep [2, 3, 4] rfl
 refine sS H fun K3 k3=>sf fo_25_1 rfl <| sl S 1 one_22 rfl rfl rfl <| sL sl_22 rfl <| sr 2 rfl <| sg 3 4 19 22 false rfl rfl (fun hg5 => sy hg5 <| sr 1 rfl <| sy hg5 <| sL sl_23 rfl <| sy hg5 <| sr 1 rfl <| sz 3 rfl rfl rfl) <| so rfl rfl rfl <| sE ?_;clear H a;intro a H
 refine k3 _ ?_;clear k3 K3
 refine cond_ H rfl (fun hc1 => ?_) (fun hc1 => ?_)
 ·skip
  try simp only [o1,o2,o3,o4,o5,o6,o7,o8,o9,oa] at hc1
  replace H := H.keep [] rfl
  refine seq_list fun K4 k4 => ?_
  refine list_call H rfl rfl Try.func15 rfl rfl (law_works _) ?_;clear H a
  rintro _ _ a ⟨rfl, S2⟩ H
  replace S := S.call S2;clear S2
  refine ls 1 H <| sr 1 rfl <| sE ?_;clear H a;intro a H
  refine k4 _ _ ?_;clear k4 K4
  refine wp_ret ?_
  refine ret1 (fn := Try.f3) rfl H rfl ?_
  exact ⟨rfl, (S.sel [] rfl rfl)⟩
 try simp only [o1,o2,o3,o4,o5,o6,o7,o8,o9,oa] at hc1
 refine wp_skip ?_
 refine k2 _ _ ?_
 replace H := H.keep [2, 3, 4] rfl
 replace S := S.drew
 refine seq_wt 999999 (.q 0 (.q 2 (.q 3 (.q 4 (.q 5 (.q 7 (.b2 1 (.e 6 (.e 8 (.e 9 (.q 10 (.q 11 (.q 12 (.q 13 (.q 14 (.q 15 (.q 16 (.q 17 (.q 18 .nil)))))))))))) 6 (.e 1 (.e 8 (.e 9 (.q 10 (.q 11 (.q 12 (.q 13 (.q 14 (.q 15 (.q 16 (.q 17 (.q 18 .nil))))))))))))))))))) (by kernel_rfl) (by kernel_rfl) (S.sel [0, 1] rfl rfl) fun K5 k5 => ?_
 refine wt_does H rfl rfl (fun _ S => (does_loadBox agg_25 sz_25 rfl S (i := 1) rfl rfl)) ?_;clear H a;intro a H
 refine wt_does H rfl rfl (fun _ S => (does_field fo_27_0 rfl)) ?_;clear H a;intro a H
 refine wt_does H rfl rfl (fun _ S => does_load one_3 rfl (boxM.rd S (i := 0) rfl rfl)) ?_;clear H a;intro a H
 refine wt_does H rfl rfl (fun _ S => (does_field fo_27_1 rfl)) ?_;clear H a;intro a H
 refine wt_does H rfl rfl (fun _ S => does_load one_4 rfl (boxM.rd S (i := 0) rfl rfl)) ?_;clear H a;intro a H
 refine wt_does H rfl rfl (fun _ S => does_move rfl) ?_;clear H a;intro a H
 refine wt_b2 rfl rfl ?_ ?_
 ·skip
  refine list_call H rfl rfl Try.func17 rfl rfl (ref_Copy pl ps PA pc xs XA xc _ (hps.now S) hpn (hxs.now S) hxn hpn8 hxn8) ?_;clear H a
  rintro _ _ a ⟨A5, c5, B5, d5, rfl, S2⟩ H
  replace S := S.call S2;clear S2
  refine wpList_nil (And.intro (Or.inr (S.sel [2, 3] rfl rfl)) ?_)
  refine wt_eff rfl ?_
  refine list_build0 H rfl S sl_23 sz_3 (icl l) ?_;clear H a S;intro A1 _ a S H
  refine wpList_nil (And.intro (Or.inr (S.sel [3, 4] rfl rfl)) ?_)
  refine wt_eff rfl ?_
  refine list_append H rfl S sl_23 sz_3 ze_3 by_3 rfl rfl (i := 0) rfl rfl rfl ((hl.now S)) (fun _ _ _ _ => rfl) (by omega) (by omega) ?_;clear H a S;intro A2 c2 _ a S H
  rw [Nat.zero_add] at H
  replace S := S.recell (i := 0) (n := l.length) (cell' := icl l) (by simp only [Nat.zero_add]; rfl) (fun k j hk hj => by unfold capp; rw [if_neg (by omega)]; rfl)
  refine wpList_nil (And.intro (Or.inr (S.sel [3, 4] rfl rfl)) ?_)
  refine wt_eff rfl ?_
  refine list_call H rfl rfl Try.func16 rfl rfl (ret_imp (ways_Apart pl ps A5 c5 xs B5 d5 out help l _ _ _ (ownM.inS S (i := 1) rfl) hpn (ownM.inS S (i := 2) rfl) hxn (ownM.inS S (i := 0) rfl) hln (ownM.le S (i := 0) rfl).1) (fun u w' h => ap_form h)) ?_;clear H a
  rintro _ _ a ⟨x1, y1, b1, z1, rfl, hap1, S2⟩ H
  replace S := S.call S2;clear S2
  refine wpList_nil (And.intro (Or.inr (S.sel [3, 4] rfl rfl)) ?_)
  refine wt_does H rfl rfl (fun _ S => does_move rfl) ?_;clear H a;intro a H
  refine wt_does H rfl rfl (fun _ S => does_extract rfl rfl) ?_;clear H a;intro a H
  refine wt_does H rfl rfl (fun _ S => does_extract rfl rfl) ?_;clear H a;intro a H
  refine wt_does H rfl rfl (fun _ S => does_extract rfl rfl) ?_;clear H a;intro a H
  refine wt_does H rfl rfl (fun _ S => does_extract rfl rfl) ?_;clear H a;intro a H
  refine wt_does H rfl rfl (fun _ S => does_assign rfl) ?_;clear H a;intro a H
  refine wt_does H rfl rfl (fun _ S => does_assign rfl) ?_;clear H a;intro a H
  refine wt_does H rfl rfl (fun _ S => does_assign rfl) ?_;clear H a;intro a H
  refine wt_does H rfl rfl (fun _ S => does_assign rfl) ?_;clear H a;intro a H
  refine wt_nil ?_
  refine k5 _ _ ?_
  clear k5 K5
  replace H := H.keep [2, 3, 4, 7, 8, 9, 10] rfl
  refine seq_list fun K6 k6 => ?_
  refine ls 6 H <| sd ((does_loadBox agg_25 sz_25 rfl S (i := 4) rfl rfl)) <| sf fo_27_0 rfl <| sl S 3 one_3 rfl rfl rfl <| sf fo_27_1 rfl <| sl S 3 one_4 rfl rfl rfl <| sr 1 rfl <| sE ?_;clear H a;intro a H
  refine list_call H rfl rfl Try.func18 rfl rfl (ret_imp (ref_Apart pl ps PA pc xs XA xc out help l LA lc _ (hps.now S) hpn (hxs.now S) hxn (hl.now S) hln) (fun u w' h => ap_form h)) ?_;clear H a
  rintro _ _ a ⟨x2, y2, b2, z2, rfl, hap2, S2⟩ H
  replace S := S.call S2;clear S2
  obtain ⟨rfl, rfl, rfl, rfl⟩ := ap_same (apart_one hap1 hap2)
  refine ls 9 H <| sr 9 rfl <| sE ?_;clear H a;intro a H
  refine k6 _ _ ?_;clear k6 K6
  replace H := H.keep [7, 8, 9, 10, 11, 12, 13, 14] rfl
  refine seq_list fun K7 k7 => ?_
  refine ls 7 H <| sr 2 rfl <| sd (does_eq_t rfl rfl rfl) <| sr 1 rfl <| sy rfl <| sr 1 rfl <| sy rfl <| sr 1 rfl <| sy rfl <| sd (does_eq_t rfl rfl rfl) <| sE ?_;clear H a;intro a H
  refine list_does H rfl ((by first | (exact does_and rfl rfl rfl; trace "ALT law_WaysParts 5.7.1 0") | (exact does_pick rfl rfl rfl; trace "ALT law_WaysParts 5.7.1 1"))) ?_;clear H a;intro a H
  refine ls 4 H <| sr 1 rfl <| sy rfl <| sr 1 rfl <| sy rfl <| sr 1 rfl <| sy rfl <| sd (does_eqb_t Try.underlying4 rfl rfl rfl) <| sE ?_;clear H a;intro a H
  refine list_does H rfl ((by first | (exact does_and rfl rfl rfl; trace "ALT law_WaysParts 5.12.1 0") | (exact does_pick rfl rfl rfl; trace "ALT law_WaysParts 5.12.1 1"))) ?_;clear H a;intro a H
  refine ls 4 H <| sr 1 rfl <| sy rfl <| sr 1 rfl <| sy rfl <| sr 1 rfl <| sy rfl <| sd (does_eq_t rfl rfl rfl) <| sE ?_;clear H a;intro a H
  refine list_does H rfl ((by first | (exact does_and rfl rfl rfl; trace "ALT law_WaysParts 5.17.1 0") | (exact does_pick rfl rfl rfl; trace "ALT law_WaysParts 5.17.1 1"))) ?_;clear H a;intro a H
  refine ls 1 H <| sr 1 rfl <| sE ?_;clear H a;intro a H
  refine list_yes H rfl rfl ?_
  refine list_call H rfl rfl Try.func15 rfl rfl (law_works _) ?_;clear H a
  rintro _ _ a ⟨rfl, S2⟩ H
  replace S := S.call S2;clear S2
  refine list_does H rfl ((by first | (exact does_and rfl rfl rfl; trace "ALT law_WaysParts 5.20.1 0") | (exact does_pick rfl rfl rfl; trace "ALT law_WaysParts 5.20.1 1"))) ?_;clear H a;intro a H
  refine ls 1 H <| sr 1 rfl <| sE ?_;clear H a;intro a H
  refine k7 _ _ ?_;clear k7 K7
  refine wp_ret ?_
  refine ret1 (fn := Try.f3) rfl H rfl ?_
  exact ⟨rfl, (S.sel [] rfl rfl)⟩
 ·skip
  refine list_build0 H rfl S sl_23 sz_3 (icl l) ?_;clear H a S;intro A3 _ a S H
  refine wpList_nil (And.intro (Or.inr (S.sel [1, 2] rfl rfl)) ?_)
  refine wt_eff rfl ?_
  refine list_call H rfl rfl Try.func17 rfl rfl (ref_Copy pl ps PA pc xs XA xc _ (hps.now S) hpn (hxs.now S) hxn hpn8 hxn8) ?_;clear H a
  rintro _ _ a ⟨A5, c5, B5, d5, rfl, S2⟩ H
  replace S := S.call S2;clear S2
  refine wpList_nil (And.intro (Or.inr (S.sel [3, 4] rfl rfl)) ?_)
  refine wt_eff rfl ?_
  refine list_append H rfl S sl_23 sz_3 ze_3 by_3 rfl rfl (i := 2) rfl rfl rfl ((hl.now S)) (fun _ _ _ _ => rfl) (by omega) (by omega) ?_;clear H a S;intro A4 c4 _ a S H
  rw [Nat.zero_add] at H
  replace S := S.recell (i := 2) (n := l.length) (cell' := icl l) (by simp only [Nat.zero_add]; rfl) (fun k j hk hj => by unfold capp; rw [if_neg (by omega)]; rfl)
  refine wpList_nil (And.intro (Or.inr (S.sel [3, 4] rfl rfl)) ?_)
  refine wt_eff rfl ?_
  refine list_call H rfl rfl Try.func16 rfl rfl (ret_imp (ways_Apart pl ps A5 c5 xs B5 d5 out help l _ _ _ (ownM.inS S (i := 0) rfl) hpn (ownM.inS S (i := 1) rfl) hxn (ownM.inS S (i := 2) rfl) hln (ownM.le S (i := 2) rfl).1) (fun u w' h => ap_form h)) ?_;clear H a
  rintro _ _ a ⟨x1, y1, b1, z1, rfl, hap1, S2⟩ H
  replace S := S.call S2;clear S2
  refine wpList_nil (And.intro (Or.inr (S.sel [3, 4] rfl rfl)) ?_)
  refine wt_does H rfl rfl (fun _ S => does_move rfl) ?_;clear H a;intro a H
  refine wt_does H rfl rfl (fun _ S => does_extract rfl rfl) ?_;clear H a;intro a H
  refine wt_does H rfl rfl (fun _ S => does_extract rfl rfl) ?_;clear H a;intro a H
  refine wt_does H rfl rfl (fun _ S => does_extract rfl rfl) ?_;clear H a;intro a H
  refine wt_does H rfl rfl (fun _ S => does_extract rfl rfl) ?_;clear H a;intro a H
  refine wt_does H rfl rfl (fun _ S => does_assign rfl) ?_;clear H a;intro a H
  refine wt_does H rfl rfl (fun _ S => does_assign rfl) ?_;clear H a;intro a H
  refine wt_does H rfl rfl (fun _ S => does_assign rfl) ?_;clear H a;intro a H
  refine wt_does H rfl rfl (fun _ S => does_assign rfl) ?_;clear H a;intro a H
  refine wt_nil ?_
  refine k5 _ _ ?_
  clear k5 K5
  replace H := H.keep [2, 3, 4, 7, 8, 9, 10] rfl
  refine seq_list fun K8 k8 => ?_
  refine ls 6 H <| sd ((does_loadBox agg_25 sz_25 rfl S (i := 4) rfl rfl)) <| sf fo_27_0 rfl <| sl S 3 one_3 rfl rfl rfl <| sf fo_27_1 rfl <| sl S 3 one_4 rfl rfl rfl <| sr 1 rfl <| sE ?_;clear H a;intro a H
  refine list_call H rfl rfl Try.func18 rfl rfl (ret_imp (ref_Apart pl ps PA pc xs XA xc out help l LA lc _ (hps.now S) hpn (hxs.now S) hxn (hl.now S) hln) (fun u w' h => ap_form h)) ?_;clear H a
  rintro _ _ a ⟨x2, y2, b2, z2, rfl, hap2, S2⟩ H
  replace S := S.call S2;clear S2
  obtain ⟨rfl, rfl, rfl, rfl⟩ := ap_same (apart_one hap1 hap2)
  refine ls 9 H <| sr 9 rfl <| sE ?_;clear H a;intro a H
  refine k8 _ _ ?_;clear k8 K8
  replace H := H.keep [7, 8, 9, 10, 11, 12, 13, 14] rfl
  refine seq_list fun K9 k9 => ?_
  refine ls 7 H <| sr 2 rfl <| sd (does_eq_t rfl rfl rfl) <| sr 1 rfl <| sy rfl <| sr 1 rfl <| sy rfl <| sr 1 rfl <| sy rfl <| sd (does_eq_t rfl rfl rfl) <| sE ?_;clear H a;intro a H
  refine list_does H rfl ((by first | (exact does_and rfl rfl rfl; trace "ALT law_WaysParts 5.7.2 0") | (exact does_pick rfl rfl rfl; trace "ALT law_WaysParts 5.7.2 1"))) ?_;clear H a;intro a H
  refine ls 4 H <| sr 1 rfl <| sy rfl <| sr 1 rfl <| sy rfl <| sr 1 rfl <| sy rfl <| sd (does_eqb_t Try.underlying4 rfl rfl rfl) <| sE ?_;clear H a;intro a H
  refine list_does H rfl ((by first | (exact does_and rfl rfl rfl; trace "ALT law_WaysParts 5.12.2 0") | (exact does_pick rfl rfl rfl; trace "ALT law_WaysParts 5.12.2 1"))) ?_;clear H a;intro a H
  refine ls 4 H <| sr 1 rfl <| sy rfl <| sr 1 rfl <| sy rfl <| sr 1 rfl <| sy rfl <| sd (does_eq_t rfl rfl rfl) <| sE ?_;clear H a;intro a H
  refine list_does H rfl ((by first | (exact does_and rfl rfl rfl; trace "ALT law_WaysParts 5.17.2 0") | (exact does_pick rfl rfl rfl; trace "ALT law_WaysParts 5.17.2 1"))) ?_;clear H a;intro a H
  refine ls 1 H <| sr 1 rfl <| sE ?_;clear H a;intro a H
  refine list_yes H rfl rfl ?_
  refine list_call H rfl rfl Try.func15 rfl rfl (law_works _) ?_;clear H a
  rintro _ _ a ⟨rfl, S2⟩ H
  replace S := S.call S2;clear S2
  refine list_does H rfl ((by first | (exact does_and rfl rfl rfl; trace "ALT law_WaysParts 5.20.2 0") | (exact does_pick rfl rfl rfl; trace "ALT law_WaysParts 5.20.2 1"))) ?_;clear H a;intro a H
  refine ls 1 H <| sr 1 rfl <| sE ?_;clear H a;intro a H
  refine k9 _ _ ?_;clear k9 K9
  refine wp_ret ?_
  refine ret1 (fn := Try.f3) rfl H rfl ?_
  exact ⟨rfl, (S.sel [] rfl rfl)⟩

end Go.Proofs.Ytlmddkekeoebcaa
