/- DrF. Printed by gen.py. -/
import Derived.Test.YtdfjdkhgdmndjaaDrE
namespace Go.Proofs.Ytdfjdkhgdmndjaa
open Go.RowKit
set_option linter.unusedVariables false
set_option linter.unusedSimpArgs false
set_option maxRecDepth 100000
set_option maxHeartbeats 4000000


theorem any_at {l : List Int} {p : Int → Bool} {k : Nat} (hk : k < l.length) (h : p (l.getD k 0) = true) : l.any p = true := by
  rw [List.getD_eq_getElem?_getD, List.getElem?_eq_getElem hk] at h
  exact List.any_eq_true.2 ⟨_, List.getElem_mem hk, h⟩
theorem any_take {l : List Int} {p : Int → Bool} {k : Nat} (hk : k < l.length) (h : (l.take k).any p = false) (h2 : p (l.getD k 0) = false) : (l.take (k + 1)).any p = false := by
  rw [List.getD_eq_getElem?_getD, List.getElem?_eq_getElem hk] at h2
  rw [List.take_succ_eq_append_getElem hk, List.any_append, h]
  simpa using h2


theorem drv_Play1 (sp slo shi sfail : Int) (sb : Nat) (x : Int) (w : World) (F : Nat → Prop) (S : St w F [boxM sb 33 [.int .i64 sp, .int .i64 slo, .int .i64 shi, .int .i64 sfail]] w) :
    Calls Try.prog 34 [.int .i64 x, .pointer (some ⟨sb, 0, none⟩)].toArray w (Ret (fun u w' => u = .bool (!(decide (slo ≤ x) && decide (x ≤ shi))) ∧ St w F [boxM sb 33 [.int .i64 sp, .int .i64 slo, .int .i64 shi, .int .i64 sfail]] w')) := by
 refine enter Try.func34 rfl Try.ntmps34 rfl (fun a H => ?_)
 skip
 refine sS H fun K1 k1=>sr 1 rfl <| sE ?_;clear H a;intro a H
 refine k1 _ ?_;clear k1 K1
 refine seq_list fun K2 k2 => ?_
 refine ls 3 H <| sr 1 rfl <| sf fo_33_1 rfl <| sd ((does_loadBox agg_31 sz_31 rfl S (i := 0) rfl rfl)) <| sE ?_;clear H a;intro a H
 refine list_call H rfl rfl Try.func35 rfl rfl (drv_in _ _ _ _) ?_;clear H a
 rintro _ _ a ⟨rfl, S2⟩ H
 replace S := S.call S2;clear S2
 refine ls 2 H <| sr 2 rfl <| sE ?_;clear H a;intro a H
 refine k2 _ _ ?_;clear k2 K2
 refine wp_ret ?_
 refine ret1 (fn := Try.f34) rfl H rfl ?_
 exact ⟨rfl, (S.sel [0] rfl rfl)⟩

theorem drv_IndexFunc (l : List Int) (A : Option Addr) (cp : Nat) (sp slo shi sfail : Int) (sb : Nat) (w : World) (F : Nat → Prop) (S : St w F [boxM sb 33 [.int .i64 sp, .int .i64 slo, .int .i64 shi, .int .i64 sfail]] w) (hl : InS w F 1 A l.length (icl l)) (hn : l.length ≤ 9223372036854775807) :
    Calls Try.prog 50 [.slice A l.length cp, .func (.func 34) #[] #[.pointer (some ⟨sb, 0, none⟩)]].toArray w (Ret (fun u w' => ∃ n : Int, u = .int .i64 n ∧ decide (0 ≤ n) = l.any (fun x => !(decide (slo ≤ x) && decide (x ≤ shi))) ∧ St w F [boxM sb 33 [.int .i64 sp, .int .i64 slo, .int .i64 shi, .int .i64 sfail]] w')) := by
 refine enter Try.func50 rfl Try.ntmps50 rfl (fun a H => ?_)
 skip
 refine sS H fun K1 k1=>sr 1 rfl <| sE ?_;clear H a;intro a H
 refine k1 _ ?_;clear k1 K1
 refine wp_seq_k fun K2 k2 => ?_
 refine sS H fun K3 k3=>sr 1 rfl <| sL sl_36 rfl <| sr 1 rfl <| sE ?_;clear H a;intro a H
 refine k3 _ ?_;clear k3 K3
 refine wp_block ?_
 refine loop_st (X := Nat) (R0 := _) [0, 1, 7] H rfl (fun k => [(8, .int .i64 (k : Int))]) (fun k => [boxM sb 33 [.int .i64 sp, .int .i64 slo, .int .i64 shi, .int .i64 sfail]]) (fun g k => k ≤ l.length ∧ g + k = l.length ∧ (l.take k).any (fun x => !(decide (slo ≤ x) && decide (x ≤ shi))) = false) (l.length) 0 ?_ (S.sel [0] rfl rfl) (H.keep [8, 0, 1, 7] rfl) ?_
 · exact ⟨by omega, by omega, by simp⟩
 clear H S a
 intro g1 x1 a w1 hp S H K4 k4
 obtain ⟨k, rfl⟩ : ∃ y, y = x1 := ⟨_, rfl⟩
 refine sS H fun K5 k5=>sr 1 rfl <| sE ?_;clear H a;intro a H
 refine k5 _ ?_;clear k5 K5
 refine wp_seq_k fun K6 k6 => ?_
 refine condL H rfl (fun hc1 => ?_) (fun hc1 => ?_)
 ·skip
  refine wp_skip ?_
  refine k6 _ _ ?_
  refine wp_seq_k fun K7 k7 => ?_
  refine wp_block ?_
  refine sS H fun K8 k8=>sr 2 rfl <| sE ?_;clear H a;intro a H
  refine k8 _ ?_;clear k8 K8
  refine seq_list fun K9 k9 => ?_
  refine ls 5 H <| sr 3 rfl <| si sl_36 sz_3 rfl rfl (hl.adr (by omega)) (by omega) <| slm one_3 rfl (hl.rd S (by omega) (by omega)) <| sE ?_;clear H a;intro a H
  have S1 := (S.sel [0] rfl rfl)
  refine list_callv H rfl rfl rfl Try.func34 rfl rfl (drv_Play1 sp slo shi sfail sb _ _ _ S1.startR) ?_;clear H a
  rintro _ _ a ⟨rfl, S2⟩ H
  replace S := (S.sel [0] rfl rfl).callR (M := [_]) S2; clear S1 S2
  refine k9 _ _ ?_;clear k9 K9
  refine cond_ H rfl (fun hc2 => ?_) (fun hc2 => ?_)
  ·skip
   try simp only [o1,o2,o3,o4,o5,o6,o7,o8,o9,oa] at hc2
   replace H := H.keep [5] rfl
   refine sS H fun K10 k10=>sr 2 rfl <| sE ?_;clear H a;intro a H
   refine k10 _ ?_;clear k10 K10
   refine wp_ret ?_
   refine ret1 (fn := Try.f50) rfl H rfl ?_
   exact ⟨_, rfl, by rw [any_at (k := k) (by omega) (by simpa using hc2)]; simp, (S.sel [0] rfl rfl)⟩
  try simp only [o1,o2,o3,o4,o5,o6,o7,o8,o9,oa] at hc2
  refine wp_skip ?_
  refine k7 _ _ ?_
  refine sO H <| sd (does_add rfl rfl (by unfold i64ok; omega)) <| sr 1 rfl <| sE ?_;clear H a;intro a H
  exact k4 (g1 - 1) (k + 1) a _ (by omega) (⟨by omega, by omega, any_take (by omega) hp.2.2 (by simpa using hc2)⟩) (S.sel [0] rfl rfl) (H.keep [8, 0, 1, 7] rfl)
 refine wp_exit ?_
 refine k2 _ _ ?_
 refine sS H fun K12 k12=>sr 1 rfl <| sE ?_;clear H a;intro a H
 refine k12 _ ?_;clear k12 K12
 refine wp_ret ?_
 refine ret1 (fn := Try.f50) rfl H rfl ?_
 refine ⟨_, rfl, ?_, (S.sel [0] rfl rfl)⟩; rw [List.take_of_length_le (by omega)] at hp; rw [hp.2.2]; rfl

theorem drv_ContainsFunc (l : List Int) (A : Option Addr) (cp : Nat) (sp slo shi sfail : Int) (sb : Nat) (w : World) (F : Nat → Prop) (S : St w F [boxM sb 33 [.int .i64 sp, .int .i64 slo, .int .i64 shi, .int .i64 sfail]] w) (hl : InS w F 1 A l.length (icl l)) (hn : l.length ≤ 9223372036854775807) :
    Calls Try.prog 33 [.slice A l.length cp, .func (.func 34) #[] #[.pointer (some ⟨sb, 0, none⟩)]].toArray w (Ret (fun u w' => u = .bool (l.any (fun x => !(decide (slo ≤ x) && decide (x ≤ shi)))) ∧ St w F [boxM sb 33 [.int .i64 sp, .int .i64 slo, .int .i64 shi, .int .i64 sfail]] w')) := by
 refine enter Try.func33 rfl Try.ntmps33 rfl (fun a H => ?_)
 skip
 refine sS H fun K1 k1=>sr 1 rfl <| sE ?_;clear H a;intro a H
 refine k1 _ ?_;clear k1 K1
 refine seq_list fun K2 k2 => ?_
 refine ls 2 H <| sr 2 rfl <| sE ?_;clear H a;intro a H
 have S1 := (S.sel [0] rfl rfl)
 refine list_call H rfl rfl Try.func50 rfl rfl (drv_IndexFunc l A cp sp slo shi sfail sb _ _ S1.startR (hl.nowR S1) hn) ?_;clear H a
 rintro _ _ a ⟨n9, rfl, hn9, S2⟩ H
 replace S := (S.sel [0] rfl rfl).callR (M := [_]) S2; clear S1 S2
 refine ls 2 H <| sr 2 rfl <| sE ?_;clear H a;intro a H
 refine k2 _ _ ?_;clear k2 K2
 refine wp_ret ?_
 refine ret1 (fn := Try.f33) rfl H rfl ?_
 exact ⟨congrArg Value.bool hn9, (S.sel [0] rfl rfl)⟩

end Go.Proofs.Ytdfjdkhgdmndjaa
