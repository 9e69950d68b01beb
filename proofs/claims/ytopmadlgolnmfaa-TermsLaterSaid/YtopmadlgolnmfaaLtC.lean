/- LtC. Printed by gen.py. -/
import Derived.Test.YtopmadlgolnmfaaLtB
namespace Go.Proofs.Ytopmadlgolnmfaa
open Go.RowKit
set_option linter.unusedVariables false
set_option linter.unusedSimpArgs false
set_option maxRecDepth 100000
set_option maxHeartbeats 4000000


theorem out_any {y : Yr} {l : List Tsk} {w w' : World} {v : Value} (hte : taskE y l = 0) (h : (taskE y l ≠ 0 ∧ v = .tuple #[.slice none 0 0, .int .i64 (taskE y l)] ∧ St w noF [] w') ∨ (taskE y l = 0 ∧ ∃ A c, v = .tuple #[.slice A y.days.toNat c, .int .i64 0] ∧ St w noF [ownM 3 1 A y.days.toNat c (setsV y l y.us.length)] w')) : ∃ A c, v = .tuple #[.slice A y.days.toNat c, .int .i64 0] ∧ St w noF [ownM 3 1 A y.days.toNat c (setsV y l y.us.length)] w' := by
  rcases h with ⟨h0, _⟩ | ⟨_, h⟩
  · exact absurd hte h0
  · exact h
section
variable {y : Yr} {l : List Tsk} {u : Int} {i : Nat}
theorem take_cells {w : World} {LA : Option Addr} {lc : Nat} (h : InS w noF 3 LA l.length (tkcell l)) (hi : i ≤ l.length) (hc : l.length ≤ lc) : InS w noF 3 (cutA LA lc 0 3) (l.take i).length (tkcell (l.take i)) := by
  have h1 := h.cut (lo := 0) (hi := i) (Nat.zero_le _) hi hc
  have e : (l.take i).length = i - 0 := by rw [List.length_take]; omega
  rw [e]
  refine h1.congr fun k j hk hj => ?_
  unfold tkcell
  rw [Nat.zero_add, takeT_get (by omega)]
theorem runs_len (h : askdE y [] u = 0) : dueN y u ≤ (runsL y [] u).length ∧ dueN y u ≤ y.days.toNat ∧ (∀ d, d < dueN y u → (runsL y [] u).getD d 0 = d) ∧ ((runsL y [] u).length = dueN y u ∨ dueN y u < (runsL y [] u).getD (dueN y u) 0) := by
  unfold runsL dueN
  rw [if_neg (by omega), if_neg (by omega)]
  obtain ⟨r, e, hr⟩ := due_runs (f := runsY y [] u.toNat) y.days.toNat
  rw [e]
  refine ⟨by rw [List.length_append, List.length_range]; omega, fst_le _, fun d hd => ?_, ?_⟩
  · rw [List.getD_eq_getElem?_getD, List.getElem?_append_left (by rw [List.length_range]; exact hd), List.getElem?_range hd]; rfl
  · rw [List.length_append, List.length_range]
    rcases r with _ | ⟨x, r⟩
    · exact .inl rfl
    · refine .inr ?_
      rw [List.getD_eq_getElem?_getD, List.getElem?_append_right (by rw [List.length_range]; exact Nat.le_refl _), List.length_range, Nat.sub_self]
      exact hr x (List.mem_cons_self ..)
end


theorem tl_Later (y : Yr) (l : List Tsk) (LA : Option Addr) (lc : Nat) (u : Int) (w : World) (hy : YIn w noF y) (hyb : YBd y) (hl : InS w noF 3 LA l.length (tkcell l)) (hln : l.length ≤ 9223372036854775807) (hlc : l.length ≤ lc) :
    Calls Try.prog 4 [.agg [.int .i64 y.days, .int .i64 y.pl, .slice y.PA y.ps.length y.pc, .slice y.XA y.xs.length y.xc, .slice y.BA y.pe.length y.bc, .int .i64 y.limit, .bool y.help, .slice y.QA y.prs.length y.qc, .slice y.VA y.us.length y.vc, .int .i64 y.crew, .slice y.SA y.sps.length y.sc].toArray, .agg [.slice LA l.length lc, .int .i64 u].toArray].toArray w (Ret (fun v w' => v = .bool true ∧ St w noF [] w')) := by
 have husn := hyb.usn
 refine enter Try.func4 rfl Try.ntmps4 rfl (fun a H => ?_)
 have S := St.start w
 refine seq_list fun K1 k1 => ?_
 refine list_box H rfl S rfl rfl ?_;clear H a S;intro b2 _ a hb2 hbw2 S H
 refine list_box H rfl S rfl rfl ?_;clear H a S;intro b3 _ a hb3 hbw3 S H
 refine ls 1 H <| sr 1 rfl <| sE ?_;clear H a;intro a H
 refine k1 _ _ ?_;clear k1 K1
 refine wp_seq_k fun K2 k2 => ?_
 replace H := H.keep [2, 3] rfl
 refine seq_list fun K3 k3 => ?_
 refine ls 1 H <| sd ((does_loadBox agg_30 sz_30 rfl S (i := 1) rfl rfl)) <| sE ?_;clear H a;intro a H
 refine list_call H rfl rfl Try.func9 rfl rfl (law12_Long y _ (hy.now S) hyb) ?_;clear H a
 rintro _ _ a ⟨bL, rfl, hbL, S2⟩ H
 replace S := S.call S2;clear S2
 refine ls 1 H <| sr 1 rfl <| sE ?_;clear H a;intro a H
 apply list_guard (i := 2) (g := 19) (t := 24) (b := false) 5 H S rfl rfl (by kernel_rfl) (by kernel_rfl) rfl rfl
 case h1 =>
  intro hg3
  have hq3 := hg3; try simp only [o1,o2,o3,o4,o5,o6,o7,o8,o9,oa] at hq3
  refine ls 3 H <| sy hg3 <| sd ((does_loadBox agg_30 sz_30 rfl S (i := 1) rfl rfl)) <| sy hg3 <| sf fo_51_0 rfl <| sy hg3 <| sl S 0 one_31 rfl rfl rfl <| sE ?_;intro a H
  refine list_yes' H rfl rfl (by assumption) ?_
  refine list_call H rfl rfl Try.func10 rfl rfl (rt_Check y l LA lc _ (hy.now S) hyb (hl.now S) hln) ?_
  rintro _ _ a ⟨rfl, S2⟩ H
  replace S := S.call S2;clear S2
  refine ls 1 H <| sy hg3 <| sr 1 rfl <| sE ?_;intro a H
  exact wpList_nil ⟨H.strip 5 rfl rfl, (S.sel [0, 1] rfl rfl)⟩
 clear H a S;intro a _ H S
 refine ls 7 H <| so rfl rfl rfl <| sr 1 rfl <| sg 4 9 26 30 false rfl rfl (fun hg10 => by
     have hq10 := hg10;try simp only [o1,o2,o3,o4,o5,o6,o7,o8,o9,oa] at hq10
     exact sy hg10 <| sf fo_51_0 rfl <| sy hg10 <| sl S 0 one_31 rfl rfl rfl <| sy hg10 <| sL sl_31 rfl <| sy hg10 <| sr 1 rfl <| sz 4 rfl rfl rfl) <| so rfl rfl rfl <| sE ?_;clear H a;intro a H
 refine k3 _ _ ?_;clear k3 K3
 refine cond_ H rfl (fun hc1 => ?_) (fun hc1 => ?_)
 ·skip
  try simp only [o1,o2,o3,o4,o5,o6,o7,o8,o9,oa] at hc1
  replace H := H.keep [] rfl
  refine seq_list fun K4 k4 => ?_
  refine list_call H rfl rfl Try.func11 rfl rfl (law12_works _) ?_;clear H a
  rintro _ _ a ⟨rfl, S2⟩ H
  replace S := S.call S2;clear S2
  refine ls 1 H <| sr 1 rfl <| sE ?_;clear H a;intro a H
  refine k4 _ _ ?_;clear k4 K4
  refine wp_ret ?_
  refine ret1 (fn := Try.f4) rfl H rfl ?_
  first | exact ⟨rfl, (S.sel [] rfl rfl)⟩ | (refine ⟨congrArg Value.bool ?_, (S.sel [] rfl rfl)⟩; rw [Bool.and_true, Bool.or_eq_true, decide_eq_true_eq, decide_eq_true_eq]; rcases hrl.2.2.2 with h | h; exact .inl (by omega); exact .inr (by exact_mod_cast h))
 try simp only [o1,o2,o3,o4,o5,o6,o7,o8,o9,oa] at hc1
 obtain ⟨⟨hb1, hte⟩, hl30⟩ := hc1
 have htk0 := task_ok hte
 have hok := year_ok htk0.1
 have hdy := hok.days
 have hD : ((y.days.toNat : Nat) : Int) = y.days := by omega
 have hmx : maxLen = 9223372036854775807 := rfl
 refine wp_skip ?_
 refine k2 _ _ ?_
 replace H := H.keep [2, 3] rfl
 refine seq_list fun K5 k5 => ?_
 refine ls 3 H <| sd ((does_loadBox agg_30 sz_30 rfl S (i := 1) rfl rfl)) <| sf fo_51_0 rfl <| sl S 0 one_31 rfl rfl rfl <| sE ?_;clear H a;intro a H
 have hcl9 := ret_imp (tm_Out y l LA lc _ (hy.now S) hyb (hl.now S) (by first | omega | (rw [List.length_take]; omega))) (fun _ _ h => out_any hte h)
 refine list_call H rfl rfl Try.func13 rfl rfl hcl9 ?_;clear H a hcl9
 rintro _ _ a ⟨A6, c6, rfl, S2⟩ H
 replace S := S.call S2;clear S2
 refine ls 5 H <| sr 5 rfl <| sE ?_;clear H a;intro a H
 refine k5 _ _ ?_;clear k5 K5
 refine wp_seq_k fun K6 k6 => ?_
 replace H := H.keep [2, 3, 5, 6] rfl
 refine sS H fun K7 k7=>sr 3 rfl <| sg 5 2 42 47 false rfl rfl (fun hg3 => by
     have hq3 := hg3;try simp only [o1,o2,o3,o4,o5,o6,o7,o8,o9,oa] at hq3
     exact sy hg3 <| sr 1 rfl <| sy hg3 <| sL sl_23 rfl <| sy hg3 <| sf fo_30_0 rfl <| sy hg3 <| sl S 2 one_3 rfl rfl rfl <| sy hg3 <| sr 1 rfl <| sz 5 rfl rfl rfl) <| so rfl rfl rfl <| sE ?_;clear H a;intro a H
 refine k7 _ ?_;clear k7 K7
 refine cond_ H rfl (fun hc2 => ?_) (fun hc2 => ?_)
 ·skip
  try simp only [o1,o2,o3,o4,o5,o6,o7,o8,o9,oa] at hc2
  exfalso; simp only [not_true_eq_false, false_or] at hc2; omega
 try simp only [o1,o2,o3,o4,o5,o6,o7,o8,o9,oa] at hc2
 refine wp_skip ?_
 refine k6 _ _ ?_
 refine wp_seq_k fun K8 k8 => ?_
 replace H := H.keep [2, 3, 5] rfl
 refine sS H fun K9 k9=>sr 1 rfl <| sE ?_;clear H a;intro a H
 refine k9 _ ?_;clear k9 K9
 refine wp_block ?_
 refine loop_st (X := Nat) (R0 := _) [2, 3, 5] H rfl (fun i => [(7, .int .i64 (i : Int))]) (fun i => []) (fun g i => i ≤ l.length + 1 ∧ g + i = l.length + 1) (l.length + 1) 0 ?_ (S.sel [0, 1, 2] rfl rfl) (H.keep [7, 2, 3, 5] rfl) ?_
 · exact ⟨by omega, by omega⟩
 clear H S a
 intro g1 x1 a w1 hp S H K10 k10
 obtain ⟨i, rfl⟩ : ∃ y, y = x1 := ⟨_, rfl⟩
 refine wp_seq_k fun K11 k11 => ?_
 refine sS H fun K12 k12=>sr 1 rfl <| sf fo_51_0 rfl <| sl S 1 one_31 rfl rfl rfl <| sL sl_31 rfl <| sr 1 rfl <| sE ?_;clear H a;intro a H
 refine k12 _ ?_;clear k12 K12
 refine condG H rfl (fun hc3 => ?_) (fun hc3 => ?_)
 ·skip
  refine wp_skip ?_
  refine k11 _ _ ?_
  refine wp_seq_k fun K13 k13 => ?_
  refine wp_block ?_
  refine sS H fun K14 k14=>sf fo_30_0 rfl <| sl S 2 one_3 rfl rfl rfl <| sd (does_sub rfl rfl (by unfold i64ok; omega)) <| sr 1 rfl <| sE ?_;clear H a;intro a H
  refine k14 _ ?_;clear k14 K14
  have SR := (S.sel [0, 1, 2] rfl rfl)
  refine meet_sr (X := Int) [2, 3, 5, 7] H rfl (fun x => [(8, .int .i64 x)]) (fun x => []) (fun x => x = (if i < l.length then (l.getD i Tsk.zero).day else y.days) - 1) SR (fun K16 k16 => ?_) ?_
  ·skip
   replace H := H.keep [2, 3, 5, 7, 8] rfl
   refine sS H fun K17 k17=>sr 1 rfl <| sf fo_51_0 rfl <| sl S 1 one_31 rfl rfl rfl <| sL sl_31 rfl <| sr 1 rfl <| sE ?_;clear H a;intro a H
   refine k17 _ ?_;clear k17 K17
   refine condL H rfl (fun hc4 => ?_) (fun hc4 => ?_)
   ·skip
    have htt := tsk_in (htk0.2.2 i (by omega))
    replace H := H.keep [2, 3, 5, 7] rfl
    refine sO H <| sf fo_51_0 rfl <| sl S 1 one_31 rfl rfl rfl <| sr 1 rfl <| si sl_31 sz_48 rfl rfl (hl.adr (by omega)) (by omega) <| sp fo_48_0 rfl <| slm one_3 rfl (hl.rd S (by omega) (by omega)) <| sd (does_sub rfl rfl (by unfold i64ok; omega)) <| sr 1 rfl <| sE ?_;clear H a;intro a H
    exact k16 _ a _ (by rw [if_pos (by omega)]) (S.sel [0, 1, 2] rfl rfl) (H.keep [8, 2, 3, 5, 7] rfl)
   refine wp_skip ?_
   exact k16 _ a _ (by rw [if_neg (by omega)]) (S.sel [0, 1, 2] rfl rfl) (H.keep [8, 2, 3, 5, 7] rfl)
  clear SR H S a
  intro xm a wm hp S H
  obtain ⟨x, rfl⟩ : ∃ y, y = xm := ⟨_, rfl⟩
  have hx9 := hp
  have hxb : x ≤ y.days - 1 := by
    rw [hx9]
    by_cases hi : i < l.length
    · rw [if_pos hi]; have := (tsk_in (htk0.2.2 i hi)).1; omega
    · rw [if_neg hi]; omega
  replace H := H.keep [2, 3, 5, 7, 8] rfl
  replace S := S.drew
  refine seq_wq [(0, true), (1, true), (2, true), (3, true), (4, true), (5, false), (6, true), (7, true), (8, true), (9, true), (10, true)] (by kernel_rfl) (by kernel_rfl) (S.sel [0, 1, 2] rfl rfl) fun K19 k19 => ?_
  refine qF H <| qd rfl (fun _ S => (does_loadBox agg_30 sz_30 rfl S (i := 2) rfl rfl)) <| qd rfl (fun _ S => (does_field fo_51_0 rfl)) <| qd rfl (fun _ S => does_load one_31 rfl (boxM.rd S (i := 1) rfl rfl)) <| qr 1 rfl <| qd rfl (fun _ S => Does.to (does_slice sl_31 sz_48 rfl (lo := 0) (hi := i) (.inl ⟨rfl, rfl⟩) (.inr ⟨_, rfl, _, rfl⟩) (by omega) (by omega)) (show _ = Value.slice (cutA LA lc 0 3) (l.take i).length (lc - 0) from by rw [List.length_take, Nat.sub_zero, Nat.min_eq_left (by omega)])) <| qK ?_;clear H a;intro a H
  refine wq_eff rfl ?_
  have hcl9 := ret_imp (tm_Out y (l.take i) (cutA LA lc 0 3) (lc - 0) _ (hy.now S) hyb ((take_cells hl (show i ≤ l.length by omega) hlc).now S) (by first | omega | (rw [List.length_take]; omega))) (fun _ _ h => out_any (taskE_take hte i) h)
  refine list_call H rfl rfl Try.func13 rfl rfl hcl9 ?_;clear H a hcl9
  rintro _ _ a ⟨A7, c7, rfl, S2⟩ H
  replace S := S.call S2;clear S2
  refine wpList_nil (And.intro (S.sel [1, 2, 3] rfl rfl) ?_)
  refine qF H <| qr 5 rfl <| qK ?_;clear H a;intro a H
  refine wq_nil ?_
  refine k19 _ _ ?_
  clear k19 K19
  refine wp_seq_k fun K20 k20 => ?_
  replace H := H.keep [2, 3, 5, 7, 8, 9, 10] rfl
  refine sS H fun K21 k21=>sr 3 rfl <| sg 5 2 82 87 false rfl rfl (fun hg3 => by
      have hq3 := hg3;try simp only [o1,o2,o3,o4,o5,o6,o7,o8,o9,oa] at hq3
      exact sy hg3 <| sr 1 rfl <| sy hg3 <| sL sl_23 rfl <| sy hg3 <| sf fo_30_0 rfl <| sy hg3 <| sl S 3 one_3 rfl rfl rfl <| sy hg3 <| sr 1 rfl <| sz 5 rfl rfl rfl) <| so rfl rfl rfl <| sE ?_;clear H a;intro a H
  refine k21 _ ?_;clear k21 K21
  refine cond_ H rfl (fun hc5 => ?_) (fun hc5 => ?_)
  ·skip
   try simp only [o1,o2,o3,o4,o5,o6,o7,o8,o9,oa] at hc5
   exfalso; simp only [not_true_eq_false, false_or] at hc5; omega
  try simp only [o1,o2,o3,o4,o5,o6,o7,o8,o9,oa] at hc5
  refine wp_skip ?_
  refine k20 _ _ ?_
  replace H := H.keep [2, 3, 5, 7, 8, 9] rfl
  refine sS H fun K22 k22=>sr 1 rfl <| sE ?_;clear H a;intro a H
  refine k22 _ ?_;clear k22 K22
  refine wp_block ?_
  refine loop_st (X := Nat) (R0 := _) [2, 3, 5, 7, 8, 9] H rfl (fun d => [(11, .int .i64 (d : Int))]) (fun d => []) (fun g d => d ≤ y.days.toNat ∧ g + d = y.days.toNat) (y.days.toNat) 0 ?_ (S.sel [0, 1, 2, 3] rfl rfl) (H.keep [11, 2, 3, 5, 7, 8, 9] rfl) ?_
  · exact ⟨by omega, by omega⟩
  clear H S a
  intro g2 x2 a w2 hp S H K23 k23
  obtain ⟨d, rfl⟩ : ∃ y, y = x2 := ⟨_, rfl⟩
  refine wp_seq_k fun K24 k24 => ?_
  refine sS H fun K25 k25=>sr 3 rfl <| sE ?_;clear H a;intro a H
  refine k25 _ ?_;clear k25 K25
  refine condG H rfl (fun hc6 => ?_) (fun hc6 => ?_)
  ·skip
   refine wp_skip ?_
   refine k24 _ _ ?_
   refine wp_seq_k fun K26 k26 => ?_
   refine wp_block ?_
   replace H := H.keep [2, 3, 5, 7, 8, 9, 11] rfl
   replace S := S.drew
   refine sD H fun K27 k27=>sr 2 rfl <| sI sl_23 sz_3 rfl rfl (ownM.adr S (i := 0) rfl (by omega)) (by omega) (by omega) <| slm one_3 rfl (ownM.rd S (i := 0) rfl (by omega) (by omega)) <| sr 2 rfl <| si sl_23 sz_3 rfl rfl (ownM.adr S (i := 1) rfl (by omega)) (by omega) <| slm one_3 rfl (ownM.rd S (i := 1) rfl (by omega) (by omega)) <| sr 1 rfl <| sE ?_;clear H a;intro a H
   refine k27 _ ?_;clear k27 K27
   refine condN H rfl (fun hc7 => ?_) (fun hc7 => ?_)
   ·skip
    exfalso; exact hc7 (outY_take hte (fun hi => by rw [if_pos hi] at hx9; omega) _)
   refine wp_skip ?_
   refine k26 _ _ ?_
   replace H := H.keep [2, 3, 5, 7, 8, 9, 11] rfl
   refine sO H <| sr 1 rfl <| sd (does_add rfl rfl (by unfold i64ok; omega)) <| sr 1 rfl <| sE ?_;clear H a;intro a H
   exact k23 (g2 - 1) (d + 1) a _ (by omega) (⟨by omega, by omega⟩) (S.sel [0, 1, 2, 3] rfl rfl) (H.keep [11, 2, 3, 5, 7, 8, 9] rfl)
  refine wp_exit ?_
  refine k13 _ _ ?_
  refine sO H <| sr 1 rfl <| sd (does_add rfl rfl (by unfold i64ok; omega)) <| sr 1 rfl <| sE ?_;clear H a;intro a H
  exact k10 (g1 - 1) (i + 1) a _ (by omega) (⟨by omega, by omega⟩) (S.sel [1, 2, 3] rfl rfl) (H.keep [7, 2, 3, 5] rfl)
 refine wp_exit ?_
 refine k8 _ _ ?_
 refine wp_seq_k fun K30 k30 => ?_
 replace H := H.keep [2, 3] rfl
 refine sS H fun K31 k31=>sf fo_51_1 rfl <| sl S 1 one_3 rfl rfl rfl <| sr 2 rfl <| sg 6 3 106 112 false rfl rfl (fun hg4 => by
     have hq4 := hg4;try simp only [o1,o2,o3,o4,o5,o6,o7,o8,o9,oa] at hq4
     exact sy hg4 <| sf fo_51_1 rfl <| sy hg4 <| sl S 1 one_3 rfl rfl rfl <| sy hg4 <| sf fo_30_6 rfl <| sy hg4 <| sl S 2 one_27 rfl rfl rfl <| sy hg4 <| sL sl_27 rfl <| sy hg4 <| sr 1 rfl <| sz 6 rfl rfl rfl) <| so rfl rfl rfl <| sE ?_;clear H a;intro a H
 refine k31 _ ?_;clear k31 K31
 refine cond_ H rfl (fun hc8 => ?_) (fun hc8 => ?_)
 ·skip
  try simp only [o1,o2,o3,o4,o5,o6,o7,o8,o9,oa] at hc8
  replace H := H.keep [] rfl
  refine seq_list fun K32 k32 => ?_
  refine list_call H rfl rfl Try.func11 rfl rfl (law12_works _) ?_;clear H a
  rintro _ _ a ⟨rfl, S2⟩ H
  replace S := S.call S2;clear S2
  refine ls 1 H <| sr 1 rfl <| sE ?_;clear H a;intro a H
  refine k32 _ _ ?_;clear k32 K32
  refine wp_ret ?_
  refine ret1 (fn := Try.f4) rfl H rfl ?_
  first | exact ⟨rfl, (S.sel [] rfl rfl)⟩ | (refine ⟨congrArg Value.bool ?_, (S.sel [] rfl rfl)⟩; rw [Bool.and_true, Bool.or_eq_true, decide_eq_true_eq, decide_eq_true_eq]; rcases hrl.2.2.2 with h | h; exact .inl (by omega); exact .inr (by exact_mod_cast h))
 try simp only [o1,o2,o3,o4,o5,o6,o7,o8,o9,oa] at hc8
 refine wp_skip ?_
 refine k30 _ _ ?_
 have hz : askdE y [] u = 0 := askd_ok (show taskE y [] = 0 from taskE_take hte 0) (by omega)
 have hrl := runs_len hz
 replace H := H.keep [2, 3] rfl
 refine seq_list fun K33 k33 => ?_
 refine ls 3 H <| sd ((does_loadBox agg_30 sz_30 rfl S (i := 2) rfl rfl)) <| sf fo_51_1 rfl <| sl S 1 one_3 rfl rfl rfl <| sE ?_;clear H a;intro a H
 refine list_call H rfl rfl Try.func16 rfl rfl (tm_Due y u _ (hy.now S) hyb) ?_;clear H a
 rintro _ _ a ⟨rfl, S2⟩ H
 replace S := S.call S2;clear S2
 refine ls 5 H <| sr 5 rfl <| sE ?_;clear H a;intro a H
 refine k33 _ _ ?_;clear k33 K33
 replace H := H.keep [2, 3, 12, 13] rfl
 refine seq_list fun K34 k34 => ?_
 refine ls 3 H <| sd ((does_loadBox agg_30 sz_30 rfl S (i := 2) rfl rfl)) <| sf fo_51_1 rfl <| sl S 1 one_3 rfl rfl rfl <| sE ?_;clear H a;intro a H
 have hcl9 := tm_Runs y [] none 0 u _ (hy.now S) hyb InS.nil (Nat.zero_le _)
 refine list_call H rfl rfl Try.func17 rfl rfl hcl9 ?_;clear H a hcl9
 rintro _ _ a ⟨A8, c8, rfl, S2⟩ H
 replace S := S.call S2;clear S2
 refine ls 5 H <| sr 5 rfl <| sE ?_;clear H a;intro a H
 refine k34 _ _ ?_;clear k34 K34
 refine wp_seq_k fun K35 k35 => ?_
 replace H := H.keep [2, 12, 13, 14, 15] rfl
 refine sS H fun K36 k36=>sr 3 rfl <| sg 2 2 131 133 false rfl rfl (fun hg3 => by
     have hq3 := hg3;try simp only [o1,o2,o3,o4,o5,o6,o7,o8,o9,oa] at hq3
     exact sy hg3 <| sr 1 rfl <| sy hg3 <| sr 1 rfl <| sz 2 rfl rfl rfl) <| so rfl rfl rfl <| sr 1 rfl <| sg 2 6 135 137 false rfl rfl (fun hg7 => by
     have hq7 := hg7;try simp only [o1,o2,o3,o4,o5,o6,o7,o8,o9,oa] at hq7
     exact sy hg7 <| sr 1 rfl <| sy hg7 <| sr 1 rfl <| sz 2 rfl rfl rfl) <| so rfl rfl rfl <| sr 1 rfl <| sg 4 10 139 143 false rfl rfl (fun hg11 => by
     have hq11 := hg11;try simp only [o1,o2,o3,o4,o5,o6,o7,o8,o9,oa] at hq11
     exact sy hg11 <| sr 1 rfl <| sy hg11 <| sf fo_30_0 rfl <| sy hg11 <| sl S 3 one_3 rfl rfl rfl <| sy hg11 <| sr 1 rfl <| sz 4 rfl rfl rfl) <| so rfl rfl rfl <| sr 1 rfl <| sg 4 16 145 149 false rfl rfl (fun hg17 => by
     have hq17 := hg17;try simp only [o1,o2,o3,o4,o5,o6,o7,o8,o9,oa] at hq17
     exact sy hg17 <| sr 1 rfl <| sy hg17 <| sL sl_23 rfl <| sy hg17 <| sr 1 rfl <| sy hg17 <| sr 1 rfl <| sz 4 rfl rfl rfl) <| so rfl rfl rfl <| sE ?_;clear H a;intro a H
 refine k36 _ ?_;clear k36 K36
 refine cond_ H rfl (fun hc9 => ?_) (fun hc9 => ?_)
 ·skip
  try simp only [o1,o2,o3,o4,o5,o6,o7,o8,o9,oa] at hc9
  exfalso; omega
 try simp only [o1,o2,o3,o4,o5,o6,o7,o8,o9,oa] at hc9
 refine wp_skip ?_
 refine k35 _ _ ?_
 refine wp_seq_k fun K37 k37 => ?_
 replace H := H.keep [12, 14] rfl
 refine sS H fun K38 k38=>sr 1 rfl <| sE ?_;clear H a;intro a H
 refine k38 _ ?_;clear k38 K38
 refine wp_block ?_
 refine loop_st (X := Nat) (R0 := _) [12, 14] H rfl (fun d => [(16, .int .i64 (d : Int))]) (fun d => []) (fun g d => d ≤ dueN y u ∧ g + d = dueN y u) (dueN y u) 0 ?_ (S.sel [0, 1, 2, 3] rfl rfl) (H.keep [16, 12, 14] rfl) ?_
 · exact ⟨by omega, by omega⟩
 clear H S a
 intro g3 x3 a w3 hp S H K39 k39
 obtain ⟨d, rfl⟩ : ∃ y, y = x3 := ⟨_, rfl⟩
 refine wp_seq_k fun K40 k40 => ?_
 refine sS H fun K41 k41=>sr 3 rfl <| sE ?_;clear H a;intro a H
 refine k41 _ ?_;clear k41 K41
 refine condL H rfl (fun hc10 => ?_) (fun hc10 => ?_)
 ·skip
  refine wp_skip ?_
  refine k40 _ _ ?_
  refine wp_seq_k fun K42 k42 => ?_
  refine wp_block ?_
  refine sS H fun K43 k43=>sr 2 rfl <| si sl_23 sz_3 rfl rfl (ownM.adr S (i := 0) rfl (by omega)) (by omega) <| slm one_3 rfl (ownM.rd S (i := 0) rfl (by omega) (by omega)) <| sr 2 rfl <| sE ?_;clear H a;intro a H
  refine k43 _ ?_;clear k43 K43
  refine condN H rfl (fun hc11 => ?_) (fun hc11 => ?_)
  ·skip
   exfalso; exact hc11 (congrArg (fun n : Nat => (n : Int)) (hrl.2.2.1 d (by omega)))
  refine wp_skip ?_
  refine k42 _ _ ?_
  replace H := H.keep [12, 14, 16] rfl
  refine sO H <| sr 1 rfl <| sd (does_add rfl rfl (by unfold i64ok; omega)) <| sr 1 rfl <| sE ?_;clear H a;intro a H
  exact k39 (g3 - 1) (d + 1) a _ (by omega) (⟨by omega, by omega⟩) (S.sel [0, 1, 2, 3] rfl rfl) (H.keep [16, 12, 14] rfl)
 refine wp_exit ?_
 refine k37 _ _ ?_
 replace H := H.keep [12, 14] rfl
 refine seq_list fun K45 k45 => ?_
 refine ls 13 H <| sr 1 rfl <| sL sl_23 rfl <| sr 3 rfl <| sg 6 4 166 172 false rfl rfl (fun hg5 => by
     have hq5 := hg5;try simp only [o1,o2,o3,o4,o5,o6,o7,o8,o9,oa] at hq5
     exact sy hg5 <| sr 1 rfl <| sy hg5 <| sr 1 rfl <| sy hg5 <| si sl_23 sz_3 rfl rfl (ownM.adr S (i := 0) rfl (by omega)) (by omega) <| sy hg5 <| slm one_3 rfl (ownM.rd S (i := 0) rfl (by omega) (by omega)) <| sy hg5 <| sr 1 rfl <| sy hg5 <| sr 1 rfl <| sz 6 rfl rfl rfl) <| so rfl rfl rfl <| sr 1 rfl <| sE ?_;clear H a;intro a H
 apply list_guard (i := 12) (g := 174) (t := 175) (b := true) 1 H S rfl rfl (by kernel_rfl) (by kernel_rfl) rfl rfl
 case h1 =>
  intro hg13
  have hq13 := hg13; try simp only [o1,o2,o3,o4,o5,o6,o7,o8,o9,oa] at hq13
  refine list_yes' H rfl rfl (by assumption) ?_
  refine list_call H rfl rfl Try.func11 rfl rfl (law12_works _) ?_
  rintro _ _ a ⟨rfl, S2⟩ H
  replace S := S.call S2;clear S2
  exact wpList_nil ⟨H.strip 1 rfl rfl, (S.sel [0, 1, 2, 3] rfl rfl)⟩
 clear H a S;intro a _ H S
 refine ls 2 H <| sa rfl rfl rfl <| sr 1 rfl <| sE ?_;clear H a;intro a H
 refine k45 _ _ ?_;clear k45 K45
 refine wp_ret ?_
 refine ret1 (fn := Try.f4) rfl H rfl ?_
 first | exact ⟨rfl, (S.sel [] rfl rfl)⟩ | (refine ⟨congrArg Value.bool ?_, (S.sel [] rfl rfl)⟩; rw [Bool.and_true, Bool.or_eq_true, decide_eq_true_eq, decide_eq_true_eq]; rcases hrl.2.2.2 with h | h; exact .inl (by omega); exact .inr (by exact_mod_cast h))

theorem law_TermsLater {B : Nat} (x0n0 x0n1 : Int) (x0l2 : List Psg) (x0A2 : Option Addr) (x0c2 : Nat) (x0l3 : List Int) (x0A3 : Option Addr) (x0c3 : Nat) (x0l4 : List Int) (x0A4 : Option Addr) (x0c4 : Nat) (x0n5 : Int) (x0b6 : Bool) (x0l7 : List Prm) (x0A7 : Option Addr) (x0c7 : Nat) (x0l8 : List Unt) (x0A8 : Option Addr) (x0c8 : Nat) (x0n9 : Int) (x0l10 : List Spr) (x0A10 : Option Addr) (x0c10 : Nat) (x1l0 : List Tsk) (x1A0 : Option Addr) (x1c0 : Nat) (x1n1 : Int) (W : World) (f02 : InS W noF 7 x0A2 x0l2.length (pcell x0l2)) (g02 : x0l2.length * 56 ≤ 140737488351232) (k02 : x0l2.length ≤ x0c2) (f03 : InS W noF 1 x0A3 x0l3.length (icl x0l3)) (g03 : x0l3.length * 8 ≤ 140737488351232) (k03 : x0l3.length ≤ x0c3) (f04 : InS W noF 1 x0A4 x0l4.length (icl x0l4)) (g04 : x0l4.length * 8 ≤ 140737488351232) (k04 : x0l4.length ≤ x0c4) (f07 : InS W noF 5 x0A7 x0l7.length (prcell x0l7)) (g07 : x0l7.length * 40 ≤ 140737488351232) (k07 : x0l7.length ≤ x0c7) (f08 : InS W noF 12 x0A8 x0l8.length (vcell x0l8)) (g08 : x0l8.length * 120 ≤ 140737488351232) (k08 : x0l8.length ≤ x0c8) (hD : ∀ k, k < x0l8.length → InS W noF 2 (x0l8.getD k Unt.zero).RA (x0l8.getD k Unt.zero).rates.length (scell (x0l8.getD k Unt.zero).rates) ∧ (x0l8.getD k Unt.zero).rates.length * 16 ≤ 140737488351232 ∧ (x0l8.getD k Unt.zero).rates.length ≤ B ∧ (x0l8.getD k Unt.zero).rates.length ≤ (x0l8.getD k Unt.zero).rc ∧ InS W noF 6 (x0l8.getD k Unt.zero).UA (x0l8.getD k Unt.zero).uses.length (ucell (x0l8.getD k Unt.zero).uses) ∧ (x0l8.getD k Unt.zero).uses.length * 48 ≤ 140737488351232 ∧ (x0l8.getD k Unt.zero).uses.length ≤ B ∧ (x0l8.getD k Unt.zero).uses.length ≤ (x0l8.getD k Unt.zero).uc) (f010 : InS W noF 3 x0A10 x0l10.length (spcell x0l10)) (g010 : x0l10.length * 24 ≤ 140737488351232) (k010 : x0l10.length ≤ x0c10) (f10 : InS W noF 3 x1A0 x1l0.length (tkcell x1l0)) (g10 : x1l0.length * 24 ≤ 140737488351232) (k10 : x1l0.length ≤ x1c0) :
    Calls Try.prog 4 [.agg [.int .i64 x0n0, .int .i64 x0n1, .slice x0A2 x0l2.length x0c2, .slice x0A3 x0l3.length x0c3, .slice x0A4 x0l4.length x0c4, .int .i64 x0n5, .bool x0b6, .slice x0A7 x0l7.length x0c7, .slice x0A8 x0l8.length x0c8, .int .i64 x0n9, .slice x0A10 x0l10.length x0c10].toArray, .agg [.slice x1A0 x1l0.length x1c0, .int .i64 x1n1].toArray].toArray W (Ret fun v w' => v = .bool true ∧ St W noF [] w') := tl_Later (⟨x0n0, x0n1, x0l2, x0A2, x0c2, x0l3, x0A3, x0c3, x0l4, x0A4, x0c4, x0n5, x0b6, x0l7, x0A7, x0c7, x0l8, x0A8, x0c8, x0n9, x0l10, x0A10, x0c10⟩ : Yr) x1l0 x1A0 x1c0 x1n1 W (⟨f02, f03, f04, f07, f08, f010, fun k hk => (hD k hk).1, fun k hk => (hD k hk).2.2.2.2.1⟩ : YIn W noF (⟨x0n0, x0n1, x0l2, x0A2, x0c2, x0l3, x0A3, x0c3, x0l4, x0A4, x0c4, x0n5, x0b6, x0l7, x0A7, x0c7, x0l8, x0A8, x0c8, x0n9, x0l10, x0A10, x0c10⟩ : Yr)) (⟨g02, g03, g04, g07, g08, g010, fun k hk => (hD k hk).2.1, fun k hk => (hD k hk).2.2.2.2.2.1, fun k hk => (hD k hk).2.2.2.2.2.2.2⟩ : YBd (⟨x0n0, x0n1, x0l2, x0A2, x0c2, x0l3, x0A3, x0c3, x0l4, x0A4, x0c4, x0n5, x0b6, x0l7, x0A7, x0c7, x0l8, x0A8, x0c8, x0n9, x0l10, x0A10, x0c10⟩ : Yr)) f10 (by omega) k10


end Go.Proofs.Ytopmadlgolnmfaa
