/- TpB. Printed by gen.py. -/
import Derived.Test.YtdfjdkhgdmndjaaDrG
import Derived.Test.YtdfjdkhgdmndjaaPos
namespace Go.Proofs.Ytdfjdkhgdmndjaa
open Go.RowKit
set_option linter.unusedVariables false
set_option linter.unusedSimpArgs false
set_option maxRecDepth 100000
set_option maxHeartbeats 4000000


def exBr : List Brake := [⟨12000, 1⟩, ⟨16000, 3⟩]
theorem ex_dist : distI ⟨true, 1000, 20, 2000, 20000, exBr⟩ ⟨60, 0, 500, 0⟩ = (108, 135, 0) := by kernel_rfl


theorem dlaw_Example (w : World) :
    Calls Try.prog 27 [].toArray w (Ret (fun v w' => ∃ A, v = .agg [.bool true, .int .i64 1000, .int .i64 20, .int .i64 2000, .int .i64 20000, .slice A 2 2].toArray ∧ St w noF [ownM 110 2 A 2 2 (bcell exBr)] w')) := by
 refine enter Try.func27 rfl Try.ntmps27 rfl (fun a H => ?_)
 have S := St.start w
 refine seq_list fun K1 k1 => ?_
 refine list_alloc H rfl S ze_29 ?_;clear H a S;intro b0 _ a hb0 hbw0 S H
 refine k1 _ _ ?_;clear k1 K1
 refine seq_list fun K2 k2 => ?_
 refine ls 2 H <| sd (does_build bt_110 rfl rfl) <| sd (does_build bt_110 rfl rfl) <| sE ?_;clear H a;intro a H
 refine list_build' H rfl S sl_27 sz_110 ze_110 rfl rfl rfl rfl rfl rfl rfl rfl rfl ?_;clear H a S;intro A1 _ a hA1 S H
 refine ls 1 H <| sd (does_build bt_29 rfl rfl) <| sE ?_;clear H a;intro a H
 refine list_store H S (i := 1) rfl rfl rfl rfl sz_29 rfl rfl ?_
 clear H a S;intro _ a S H
 refine k2 _ _ ?_;clear k2 K2
 refine wp_ret ?_
 refine retA (fn := Try.f27) rfl H rfl agg_29 (by exact sz_29) (boxAgg S (i := 1) rfl) ?_
 replace S := S.recell (i := 0) rfl (cell' := bcell exBr) (cells2 (two rfl rfl) (two rfl rfl))
 exact ⟨_, rfl, (S.sel [0] rfl rfl)⟩

theorem top_between (l : List Int) (A : Option Addr) (cp ia ib : Nat) (w : World) (hl : InS w noF 1 A l.length (icl l)) (hab : ia ≤ ib) (hb : ib ≤ l.length) (hn : l.length ≤ 1000) (hf : ∀ k, k < l.length → 0 ≤ l.getD k 0 ∧ l.getD k 0 ≤ 100000) :
    Calls Try.prog 11 [.slice A l.length cp, .int .i64 (ia : Int), .int .i64 (ib : Int)].toArray w (Ret (fun v w' => v = .int .i64 (sumR (fun k => l.getD k 0) ia (ib - ia)) ∧ St w noF [] w')) := by
 refine enter Try.func11 rfl Try.ntmps11 rfl (fun a H => ?_)
 have S := St.start w
 refine sS H fun K1 k1=>sr 1 rfl <| sE ?_;clear H a;intro a H
 refine k1 _ ?_;clear k1 K1
 refine sS H fun K2 k2=>sr 1 rfl <| sE ?_;clear H a;intro a H
 refine k2 _ ?_;clear k2 K2
 refine wp_seq_k fun K3 k3 => ?_
 refine sS H fun K4 k4=>sr 2 rfl <| sE ?_;clear H a;intro a H
 refine k4 _ ?_;clear k4 K4
 refine wp_block ?_
 refine loop_st (X := Nat) (R0 := _) [0, 2] H rfl (fun d => [(7, .int .i64 (sumR (fun k => l.getD k 0) ia d)), (8, .int .i64 ((ia + d : Nat) : Int))]) (fun d => []) (fun g d => d ≤ ib - ia ∧ g + d = ib - ia) (ib - ia) 0 ?_ (S.sel [] rfl rfl) (H.keep [7, 8, 0, 2] rfl) ?_
 · exact ⟨by omega, by omega⟩
 clear H S a
 intro g1 x1 a w1 hp S H K5 k5
 obtain ⟨d, rfl⟩ : ∃ y, y = x1 := ⟨_, rfl⟩
 refine wp_seq_k fun K6 k6 => ?_
 refine sS H fun K7 k7=>sr 3 rfl <| sE ?_;clear H a;intro a H
 refine k7 _ ?_;clear k7 K7
 refine condL H rfl (fun hc1 => ?_) (fun hc1 => ?_)
 ·skip
  refine wp_skip ?_
  refine k6 _ _ ?_
  refine wp_seq_k fun K8 k8 => ?_
  refine wp_block ?_
  have hsb := sumR_bd (f := fun k => l.getD k 0) hf ia d (by omega); have hfk := hf (ia + d) (by omega)
  replace H := H.keep [0, 2, 7, 8] rfl
  refine sO H <| sr 3 rfl <| si sl_36 sz_3 rfl rfl (hl.adr (by omega)) (by omega) <| slm one_3 rfl (hl.rd S (by omega) (by omega)) <| sd (does_add rfl rfl (by unfold i64ok; omega)) <| sr 1 rfl <| sE ?_;clear H a;intro a H
  refine k8 _ _ ?_
  replace H := H.keep [0, 2, 7, 8] rfl
  refine sO H <| sr 1 rfl <| sd (does_add rfl rfl (by unfold i64ok; omega)) <| sr 1 rfl <| sE ?_;clear H a;intro a H
  exact k5 (g1 - 1) (d + 1) a _ (by omega) (by omega) (S.sel [] rfl rfl) (H.keep [7, 8, 0, 2] rfl)
 refine wp_exit ?_
 refine k3 _ _ ?_
 refine sS H fun K11 k11=>sr 2 rfl <| sE ?_;clear H a;intro a H
 refine k11 _ ?_;clear k11 K11
 refine wp_ret ?_
 refine ret1 (fn := Try.f11) rfl H rfl ?_
 have hd9 : d = ib - ia := by omega
 subst hd9
 exact ⟨rfl, (S.sel [] rfl rfl)⟩

theorem top_linked (w : World) :
    Calls Try.prog 10 [].toArray w (Ret (fun v w' => v = .bool true ∧ St w noF [] w')) := by
 refine enter Try.func10 rfl Try.ntmps10 rfl (fun a H => ?_)
 have S := St.start w
 refine sS H fun K1 k1=>sr 1 rfl <| sE ?_;clear H a;intro a H
 refine k1 _ ?_;clear k1 K1
 replace H := H.keep [] rfl
 refine seq_list fun K2 k2 => ?_
 refine list_call H rfl rfl Try.func26 rfl rfl (law_Example _) ?_;clear H a
 rintro _ _ a ⟨A1, A2, A3, rfl, S2⟩ H
 replace S := S.call S2;clear S2
 refine ls 5 H <| sr 5 rfl <| sE ?_;clear H a;intro a H
 refine list_alloc H rfl S ze_23 ?_;clear H a S;intro b1 _ a hb1 hbw1 S H
 refine list_alloc H rfl S ze_74 ?_;clear H a S;intro b3 _ a hb3 hbw3 S H
 refine list_store H S (i := 1) rfl rfl rfl rfl sz_23 rfl rfl ?_
 clear H a S;intro _ a S H
 refine ls 1 H <| sr 1 rfl <| sE ?_;clear H a;intro a H
 refine list_store H S (i := 0) rfl rfl rfl rfl sz_74 rfl rfl ?_
 clear H a S;intro _ a S H
 refine ls 1 H <| sr 1 rfl <| sE ?_;clear H a;intro a H
 refine k2 _ _ ?_;clear k2 K2
 replace H := H.keep [1, 2] rfl
 refine seq_list fun K3 k3 => ?_
 refine ls 2 H <| sd ((does_loadBox agg_23 sz_23 rfl S (i := 1) rfl rfl)) <| sr 1 rfl <| sE ?_;clear H a;intro a H
 refine list_call H rfl rfl Try.func12 rfl rfl (ret_imp (chain_Run 4 100 110 exL A1 2 0 4 _ (ownM.inS S (i := 2) rfl) (by decide)) (fun _ _ h => (⟨h.1.trans (congrArg runV ex_run), h.2⟩ : _ ∧ _))) ?_;clear H a
 rintro _ _ a ⟨rfl, S2⟩ H
 replace S := S.call S2;clear S2
 refine ls 3 H <| sr 3 rfl <| sE ?_;clear H a;intro a H
 refine list_alloc H rfl S ze_31 ?_;clear H a S;intro b5 _ a hb5 hbw5 S H
 refine list_store H S (i := 0) rfl rfl rfl rfl sz_31 rfl rfl ?_
 clear H a S;intro _ a S H
 refine ls 1 H <| sr 1 rfl <| sE ?_;clear H a;intro a H
 refine k3 _ _ ?_;clear k3 K3
 replace H := H.keep [5, 6] rfl
 refine seq_list fun K4 k4 => ?_
 refine list_call H rfl rfl Try.func27 rfl rfl (dlaw_Example _) ?_;clear H a
 rintro _ _ a ⟨A4, rfl, S2⟩ H
 replace S := S.call S2;clear S2
 refine ls 2 H <| sd (does_build bt_31 rfl rfl) <| sd (does_build bt_33 rfl rfl) <| sE ?_;clear H a;intro a H
 refine list_call H rfl rfl Try.func13 rfl rfl (drv_Distance true 1000 20 2000 20000 exBr A4 2 60 0 500 0 _ (ownM.inS S (i := 0) rfl) (by decide)) ?_;clear H a
 rintro _ _ a ⟨tl, th, rfl, S2⟩ H
 replace S := S.call S2;clear S2
 rw [ex_dist] at H
 refine ls 4 H <| sr 4 rfl <| sE ?_;clear H a;intro a H
 refine list_alloc H rfl S ze_31 ?_;clear H a S;intro b7 _ a hb7 hbw7 S H
 refine list_alloc H rfl S ze_31 ?_;clear H a S;intro b8 _ a hb8 hbw8 S H
 refine list_store H S (i := 1) rfl rfl rfl rfl sz_31 rfl rfl ?_
 clear H a S;intro _ a S H
 refine list_store H S (i := 0) rfl rfl rfl rfl sz_31 rfl rfl ?_
 clear H a S;intro _ a S H
 refine ls 1 H <| sr 1 rfl <| sE ?_;clear H a;intro a H
 refine k4 _ _ ?_;clear k4 K4
 replace H := H.keep [5, 6, 7, 9] rfl
 refine sS H fun K5 k5=>sr 3 rfl <| sy rfl <| sr 1 rfl <| sy rfl <| sr 1 rfl <| sa rfl rfl rfl <| sr 1 rfl <| sy rfl <| sd ((does_loadBox agg_31 sz_31 rfl S (i := 3) rfl rfl)) <| sy rfl <| sd (does_build bt_31 rfl rfl) <| sy rfl <| sd (does_eql_span rfl rfl) <| sa rfl rfl rfl <| sr 1 rfl <| sy rfl <| sd ((does_loadBox agg_31 sz_31 rfl S (i := 1) rfl rfl)) <| sy rfl <| sd (does_build bt_31 rfl rfl) <| sy rfl <| sd (does_eql_span rfl rfl) <| sa rfl rfl rfl <| sr 1 rfl <| sE ?_;clear H a;intro a H
 refine k5 _ ?_;clear k5 K5
 refine wp_ret ?_
 refine ret1 (fn := Try.f10) rfl H rfl ?_
 exact ⟨rfl, (S.sel [] rfl rfl)⟩

end Go.Proofs.Ytdfjdkhgdmndjaa
