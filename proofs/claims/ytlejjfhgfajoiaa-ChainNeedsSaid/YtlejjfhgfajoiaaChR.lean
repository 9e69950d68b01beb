/- ChR. Printed by gen.py. -/
import Derived.Test.YtlejjfhgfajoiaaChQ
namespace Go.Proofs.Ytlejjfhgfajoiaa
open Go.RowKit
set_option linter.unusedVariables false
set_option linter.unusedSimpArgs false


theorem wit_ok {o : Except Int (Nat → Int)} {f : Nat → Int} {w w' : World} {n : Nat} {v : Value} (h : o = .ok f) (hw : WitR w n o v w') : ∃ A' c', v = .tuple #[.slice A' n c', .int .i64 0] ∧ St w noF [ownM 3 1 A' n c' (fun k _ => .int .i64 (f k))] w' := by
  subst h; exact hw
theorem wit_err {o : Except Int (Nat → Int)} {e : Int} {w w' : World} {n : Nat} {v : Value} (h : o = .error e) (hw : WitR w n o v w') : v = .tuple #[.slice none 0 0, .int .i64 e] ∧ St w noF [] w' := by
  subst h; exact hw
theorem due_val {p : Part} {l : List Use} {cls day a b : Int} (h : dueO p l cls day = (a, b)) : (Value.tuple #[.int .i64 (dueO p l cls day).1, .int .i64 (dueO p l cls day).2]) = .tuple #[.int .i64 a, .int .i64 b] := by rw [h]
theorem cells2 {sz : Nat} {c d : Nat → Nat → Value} (h0 : ∀ j, j < sz → c 0 j = d 0 j) (h1 : ∀ j, j < sz → c 1 j = d 1 j) : ∀ k j, k < 2 → j < sz → c k j = d k j := by
  intro k j hk hj
  have : k = 0 ∨ k = 1 := by omega
  rcases this with rfl | rfl
  · exact h0 j hj
  · exact h1 j hj
theorem six {p : Nat → Prop} (h0 : p 0) (h1 : p 1) (h2 : p 2) (h3 : p 3) (h4 : p 4) (h5 : p 5) : ∀ j, j < 6 → p j := by
  intro j hj
  have : j = 0 ∨ j = 1 ∨ j = 2 ∨ j = 3 ∨ j = 4 ∨ j = 5 := by omega
  rcases this with rfl | rfl | rfl | rfl | rfl | rfl <;> assumption
theorem lit4 {k j : Nat} (hk : k < 4) (hj : j < 1) : (([[.int .i64 100], [.int .i64 103], [.int .i64 108], [.int .i64 110]] : List (List Value)).getD k []).getD j undef = .int .i64 (exW k) := by
  have h0 : j = 0 := by omega
  subst h0
  have : k = 0 ∨ k = 1 ∨ k = 2 ∨ k = 3 := by omega
  rcases this with rfl | rfl | rfl | rfl <;> rfl


set_option maxRecDepth 100000 in
set_option maxHeartbeats 1000000 in
theorem law_Example (w : World) :
    Calls Try.prog 59 [].toArray w (Ret (fun v w' => ∃ A1 A2 A3, v = .tuple #[.agg [.int .i64 4, .int .i64 100, .int .i64 110].toArray, .slice A1 2 2, .agg [.slice A2 2 2, .int .i64 1, .int .i64 300000, .int .i64 1000].toArray, .slice A3 2 2] ∧ St w noF [ownM 48 4 A1 2 2 (gcell exL), ownM 42 2 A2 2 2 (scell exP.rates), ownM 70 6 A3 2 2 (ucell exU)] w')) := by
  refine enter Try.func59 rfl Try.ntmps59 rfl (fun a H => ?_)
  have S := St.start w
  refine seq_list (fun K1 hK1 => ?_)
  refine list_alloc H rfl S ze_23 ?_; clear H a S; intro b0 _ a hb0 hbw0 S H
  refine list_does H rfl (does_assign rfl) ?_; clear H a; intro a H
  refine list_alloc H rfl S ze_62 ?_; clear H a S; intro b2 _ a hb2 hbw2 S H
  refine list_does H rfl (does_assign rfl) ?_; clear H a; intro a H
  refine hK1 _ _ ?_
  clear hK1 K1
  replace H := H.keep [0, 2] rfl
  refine seq_list (fun K2 hK2 => ?_)
  refine list_does H rfl (does_build bt_23 rfl rfl) ?_; clear H a; intro a H
  refine list_alloc H rfl S ze_23 ?_; clear H a S; intro b4 _ a hb4 hbw4 S H
  first | (refine list_store H S (i := 0) rfl rfl rfl rfl sz_23 rfl rfl ?_) | (refine list_store H S (i := 1) rfl rfl rfl rfl sz_23 rfl rfl ?_) | (refine list_store H S (i := 2) rfl rfl rfl rfl sz_23 rfl rfl ?_) | (refine list_store_own H S (i := 0) rfl rfl rfl (by omega) (by omega) sz_23 rfl ?_) | (refine list_store_own H S (i := 1) rfl rfl rfl (by omega) (by omega) sz_23 rfl ?_) | (refine list_store_own H S (i := 2) rfl rfl rfl (by omega) (by omega) sz_23 rfl ?_)
  clear H a S; intro _ a S H
  refine hK2 _ _ ?_
  clear hK2 K2
  replace H := H.keep [0, 2, 4] rfl
  refine seq_list (fun K3 hK3 => ?_)
  refine list_does H rfl (does_build bt_42 rfl rfl) ?_; clear H a; intro a H
  refine list_does H rfl (does_build bt_48 rfl rfl) ?_; clear H a; intro a H
  refine list_does H rfl (does_build bt_42 rfl rfl) ?_; clear H a; intro a H
  refine list_does H rfl (does_build bt_48 rfl rfl) ?_; clear H a; intro a H
  refine list_build' H rfl S sl_24 sz_48 ze_48 rfl rfl rfl rfl rfl rfl rfl rfl rfl ?_; clear H a S; intro A1 _ a hA1 S H
  refine list_does H rfl (does_assign rfl) ?_; clear H a; intro a H
  refine hK3 _ _ ?_
  clear hK3 K3
  replace H := H.keep [0, 2, 4, 5] rfl
  refine seq_list (fun K4 hK4 => ?_)
  refine list_does H rfl (does_build bt_42 rfl rfl) ?_; clear H a; intro a H
  refine list_does H rfl (does_build bt_42 rfl rfl) ?_; clear H a; intro a H
  refine list_build' H rfl S sl_37 sz_42 ze_42 rfl rfl rfl rfl rfl rfl rfl rfl rfl ?_; clear H a S; intro A2 _ a hA2 S H
  refine list_does H rfl (does_build bt_62 rfl rfl) ?_; clear H a; intro a H
  refine list_alloc H rfl S ze_62 ?_; clear H a S; intro b6 _ a hb6 hbw6 S H
  first | (refine list_store H S (i := 0) rfl rfl rfl rfl sz_62 rfl rfl ?_) | (refine list_store H S (i := 1) rfl rfl rfl rfl sz_62 rfl rfl ?_) | (refine list_store H S (i := 2) rfl rfl rfl rfl sz_62 rfl rfl ?_) | (refine list_store H S (i := 3) rfl rfl rfl rfl sz_62 rfl rfl ?_) | (refine list_store H S (i := 4) rfl rfl rfl rfl sz_62 rfl rfl ?_) | (refine list_store H S (i := 5) rfl rfl rfl rfl sz_62 rfl rfl ?_) | (refine list_store_own H S (i := 0) rfl rfl rfl (by omega) (by omega) sz_62 rfl ?_) | (refine list_store_own H S (i := 1) rfl rfl rfl (by omega) (by omega) sz_62 rfl ?_) | (refine list_store_own H S (i := 2) rfl rfl rfl (by omega) (by omega) sz_62 rfl ?_) | (refine list_store_own H S (i := 3) rfl rfl rfl (by omega) (by omega) sz_62 rfl ?_) | (refine list_store_own H S (i := 4) rfl rfl rfl (by omega) (by omega) sz_62 rfl ?_) | (refine list_store_own H S (i := 5) rfl rfl rfl (by omega) (by omega) sz_62 rfl ?_)
  clear H a S; intro _ a S H
  refine hK4 _ _ ?_
  clear hK4 K4
  replace H := H.keep [0, 2, 4, 5, 6] rfl
  refine seq_list (fun K5 hK5 => ?_)
  refine list_does H rfl (does_build bt_70 rfl rfl) ?_; clear H a; intro a H
  refine list_does H rfl (does_build bt_42 rfl rfl) ?_; clear H a; intro a H
  refine list_does H rfl (does_build bt_70 rfl rfl) ?_; clear H a; intro a H
  refine list_build' H rfl S sl_63 sz_70 ze_70 rfl rfl rfl rfl rfl rfl rfl rfl rfl ?_; clear H a S; intro A3 _ a hA3 S H
  refine list_does H rfl (does_assign rfl) ?_; clear H a; intro a H
  refine hK5 _ _ ?_
  clear hK5 K5
  replace H := H.keep [0, 2, 4, 5, 6, 7] rfl
  replace S := S.drew
  refine seq_wq [(0, true), (1, true), (2, true), (3, true), (4, false), (5, true), (6, false), (7, true)] (by kernel_rfl) (by kernel_rfl) (S.sel [0, 1, 2, 3, 4] rfl rfl) (fun K6 hK6 => ?_)
  refine wq_does H rfl rfl (fun _ S => by first | exact does_loadBox agg_23 sz_23 rfl S (i := 0) rfl rfl | exact does_loadBox agg_23 sz_23 rfl S (i := 1) rfl rfl | exact does_loadBox agg_23 sz_23 rfl S (i := 2) rfl rfl | exact does_loadBox agg_23 sz_23 rfl S (i := 3) rfl rfl | exact does_loadBox agg_23 sz_23 rfl S (i := 4) rfl rfl) ?_; clear H a; intro a H
  refine wq_does H rfl rfl (fun _ S => does_move rfl) ?_; clear H a; intro a H
  refine wq_does H rfl rfl (fun _ S => by first | exact does_loadBox agg_62 sz_62 rfl S (i := 0) rfl rfl | exact does_loadBox agg_62 sz_62 rfl S (i := 1) rfl rfl | exact does_loadBox agg_62 sz_62 rfl S (i := 2) rfl rfl | exact does_loadBox agg_62 sz_62 rfl S (i := 3) rfl rfl | exact does_loadBox agg_62 sz_62 rfl S (i := 4) rfl rfl) ?_; clear H a; intro a H
  refine wq_does H rfl rfl (fun _ S => does_move rfl) ?_; clear H a; intro a H
  refine wq_eff rfl ?_
  first | (refine list_store H S (i := 0) rfl rfl rfl rfl sz_23 rfl rfl ?_) | (refine list_store H S (i := 1) rfl rfl rfl rfl sz_23 rfl rfl ?_) | (refine list_store H S (i := 2) rfl rfl rfl rfl sz_23 rfl rfl ?_) | (refine list_store H S (i := 3) rfl rfl rfl rfl sz_23 rfl rfl ?_) | (refine list_store H S (i := 4) rfl rfl rfl rfl sz_23 rfl rfl ?_) | (refine list_store H S (i := 5) rfl rfl rfl rfl sz_23 rfl rfl ?_) | (refine list_store H S (i := 6) rfl rfl rfl rfl sz_23 rfl rfl ?_) | (refine list_store_own H S (i := 0) rfl rfl rfl (by omega) (by omega) sz_23 rfl ?_) | (refine list_store_own H S (i := 1) rfl rfl rfl (by omega) (by omega) sz_23 rfl ?_) | (refine list_store_own H S (i := 2) rfl rfl rfl (by omega) (by omega) sz_23 rfl ?_) | (refine list_store_own H S (i := 3) rfl rfl rfl (by omega) (by omega) sz_23 rfl ?_) | (refine list_store_own H S (i := 4) rfl rfl rfl (by omega) (by omega) sz_23 rfl ?_) | (refine list_store_own H S (i := 5) rfl rfl rfl (by omega) (by omega) sz_23 rfl ?_) | (refine list_store_own H S (i := 6) rfl rfl rfl (by omega) (by omega) sz_23 rfl ?_)
  clear H a S; intro _ a S H
  refine wpList_nil (And.intro (S.sel [0, 1, 2, 3, 4] rfl rfl) ?_)
  refine wq_does H rfl rfl (fun _ S => does_assign rfl) ?_; clear H a; intro a H
  refine wq_eff rfl ?_
  first | (refine list_store H S (i := 0) rfl rfl rfl rfl sz_62 rfl rfl ?_) | (refine list_store H S (i := 1) rfl rfl rfl rfl sz_62 rfl rfl ?_) | (refine list_store H S (i := 2) rfl rfl rfl rfl sz_62 rfl rfl ?_) | (refine list_store H S (i := 3) rfl rfl rfl rfl sz_62 rfl rfl ?_) | (refine list_store H S (i := 4) rfl rfl rfl rfl sz_62 rfl rfl ?_) | (refine list_store H S (i := 5) rfl rfl rfl rfl sz_62 rfl rfl ?_) | (refine list_store H S (i := 6) rfl rfl rfl rfl sz_62 rfl rfl ?_) | (refine list_store_own H S (i := 0) rfl rfl rfl (by omega) (by omega) sz_62 rfl ?_) | (refine list_store_own H S (i := 1) rfl rfl rfl (by omega) (by omega) sz_62 rfl ?_) | (refine list_store_own H S (i := 2) rfl rfl rfl (by omega) (by omega) sz_62 rfl ?_) | (refine list_store_own H S (i := 3) rfl rfl rfl (by omega) (by omega) sz_62 rfl ?_) | (refine list_store_own H S (i := 4) rfl rfl rfl (by omega) (by omega) sz_62 rfl ?_) | (refine list_store_own H S (i := 5) rfl rfl rfl (by omega) (by omega) sz_62 rfl ?_) | (refine list_store_own H S (i := 6) rfl rfl rfl (by omega) (by omega) sz_62 rfl ?_)
  clear H a S; intro _ a S H
  refine wpList_nil (And.intro (S.sel [0, 1, 2, 3, 4] rfl rfl) ?_)
  refine wq_does H rfl rfl (fun _ S => does_assign rfl) ?_; clear H a; intro a H
  refine wq_nil ?_
  refine hK6 _ _ ?_
  clear hK6 K6
  refine wp_ret ?_
  refine retA1A1 (fn := Try.f59) rfl H rfl rfl agg_23 (by exact sz_23) (boxAgg S (i := 6) rfl) agg_62 (by exact sz_62) (boxAgg S (i := 5) rfl) rfl rfl ?_
  replace S := S.recell (i := 3) rfl (cell' := gcell exL) (cells2 (four rfl rfl rfl rfl) (four rfl rfl rfl rfl))
  replace S := S.recell (i := 2) rfl (cell' := scell exP.rates) (cells2 (two rfl rfl) (two rfl rfl))
  replace S := S.recell (i := 0) rfl (cell' := ucell exU) (cells2 (six rfl rfl rfl rfl rfl rfl) (six rfl rfl rfl rfl rfl rfl))
  exact ⟨_, _, _, rfl, (S.sel [3, 2, 0] rfl rfl)⟩

set_option maxRecDepth 100000 in
set_option maxHeartbeats 1000000 in
theorem law_works (w : World) :
    Calls Try.prog 18 [].toArray w (Ret (fun v w' => v = .bool true ∧ St w noF [] w')) := by
  refine enter Try.func18 rfl Try.ntmps18 rfl (fun a H => ?_)
  have S := St.start w
  refine seq_still (fun K1 hK1 => ?_)
  refine still_does H rfl (does_assign rfl) ?_; clear H a; intro a H
  refine wpStill_nil (hK1 _ ?_)
  clear hK1 K1
  replace H := H.keep [] rfl
  refine seq_list (fun K2 hK2 => ?_)
  refine list_call H rfl rfl Try.func59 rfl rfl (law_Example _) ?_; clear H a
  rintro _ _ a ⟨A1, A2, A3, rfl, S2⟩ H
  replace S := S.call S2; clear S2
  refine list_does H rfl (does_move rfl) ?_; clear H a; intro a H
  refine list_does H rfl (does_extract rfl rfl) ?_; clear H a; intro a H
  refine list_does H rfl (does_extract rfl rfl) ?_; clear H a; intro a H
  refine list_does H rfl (does_extract rfl rfl) ?_; clear H a; intro a H
  refine list_does H rfl (does_extract rfl rfl) ?_; clear H a; intro a H
  refine list_alloc H rfl S ze_23 ?_; clear H a S; intro b1 _ a hb1 hbw1 S H
  refine list_alloc H rfl S ze_62 ?_; clear H a S; intro b3 _ a hb3 hbw3 S H
  first | (refine list_store H S (i := 0) rfl rfl rfl rfl sz_23 rfl rfl ?_) | (refine list_store H S (i := 1) rfl rfl rfl rfl sz_23 rfl rfl ?_) | (refine list_store H S (i := 2) rfl rfl rfl rfl sz_23 rfl rfl ?_) | (refine list_store H S (i := 3) rfl rfl rfl rfl sz_23 rfl rfl ?_) | (refine list_store H S (i := 4) rfl rfl rfl rfl sz_23 rfl rfl ?_) | (refine list_store_own H S (i := 0) rfl rfl rfl (by omega) (by omega) sz_23 rfl ?_) | (refine list_store_own H S (i := 1) rfl rfl rfl (by omega) (by omega) sz_23 rfl ?_) | (refine list_store_own H S (i := 2) rfl rfl rfl (by omega) (by omega) sz_23 rfl ?_) | (refine list_store_own H S (i := 3) rfl rfl rfl (by omega) (by omega) sz_23 rfl ?_) | (refine list_store_own H S (i := 4) rfl rfl rfl (by omega) (by omega) sz_23 rfl ?_)
  clear H a S; intro _ a S H
  refine list_does H rfl (does_assign rfl) ?_; clear H a; intro a H
  first | (refine list_store H S (i := 0) rfl rfl rfl rfl sz_62 rfl rfl ?_) | (refine list_store H S (i := 1) rfl rfl rfl rfl sz_62 rfl rfl ?_) | (refine list_store H S (i := 2) rfl rfl rfl rfl sz_62 rfl rfl ?_) | (refine list_store H S (i := 3) rfl rfl rfl rfl sz_62 rfl rfl ?_) | (refine list_store H S (i := 4) rfl rfl rfl rfl sz_62 rfl rfl ?_) | (refine list_store_own H S (i := 0) rfl rfl rfl (by omega) (by omega) sz_62 rfl ?_) | (refine list_store_own H S (i := 1) rfl rfl rfl (by omega) (by omega) sz_62 rfl ?_) | (refine list_store_own H S (i := 2) rfl rfl rfl (by omega) (by omega) sz_62 rfl ?_) | (refine list_store_own H S (i := 3) rfl rfl rfl (by omega) (by omega) sz_62 rfl ?_) | (refine list_store_own H S (i := 4) rfl rfl rfl (by omega) (by omega) sz_62 rfl ?_)
  clear H a S; intro _ a S H
  refine list_does H rfl (does_assign rfl) ?_; clear H a; intro a H
  refine hK2 _ _ ?_
  clear hK2 K2
  replace H := H.keep [1, 2, 3, 4] rfl
  refine seq_list (fun K3 hK3 => ?_)
  refine list_does H rfl (by first | exact does_loadBox agg_23 sz_23 rfl S (i := 0) rfl rfl | exact does_loadBox agg_23 sz_23 rfl S (i := 1) rfl rfl | exact does_loadBox agg_23 sz_23 rfl S (i := 2) rfl rfl | exact does_loadBox agg_23 sz_23 rfl S (i := 3) rfl rfl | exact does_loadBox agg_23 sz_23 rfl S (i := 4) rfl rfl) ?_; clear H a; intro a H
  refine list_does H rfl (does_move rfl) ?_; clear H a; intro a H
  refine list_call H rfl rfl Try.func28 rfl rfl (ret_imp (chain_Run 4 100 110 exL A1 2 0 4 _ (ownM.inS S (i := 2) rfl) (by decide)) (fun _ _ h => (⟨h.1.trans (congrArg runV ex_run), h.2⟩ : _ ∧ _))) ?_; clear H a
  rintro _ _ a ⟨rfl, S2⟩ H
  replace S := S.call S2; clear S2
  refine list_does H rfl (does_move rfl) ?_; clear H a; intro a H
  refine list_does H rfl (does_extract rfl rfl) ?_; clear H a; intro a H
  refine list_does H rfl (does_extract rfl rfl) ?_; clear H a; intro a H
  refine list_alloc H rfl S ze_42 ?_; clear H a S; intro b5 _ a hb5 hbw5 S H
  first | (refine list_store H S (i := 0) rfl rfl rfl rfl sz_42 rfl rfl ?_) | (refine list_store H S (i := 1) rfl rfl rfl rfl sz_42 rfl rfl ?_) | (refine list_store H S (i := 2) rfl rfl rfl rfl sz_42 rfl rfl ?_) | (refine list_store H S (i := 3) rfl rfl rfl rfl sz_42 rfl rfl ?_) | (refine list_store H S (i := 4) rfl rfl rfl rfl sz_42 rfl rfl ?_) | (refine list_store H S (i := 5) rfl rfl rfl rfl sz_42 rfl rfl ?_) | (refine list_store_own H S (i := 0) rfl rfl rfl (by omega) (by omega) sz_42 rfl ?_) | (refine list_store_own H S (i := 1) rfl rfl rfl (by omega) (by omega) sz_42 rfl ?_) | (refine list_store_own H S (i := 2) rfl rfl rfl (by omega) (by omega) sz_42 rfl ?_) | (refine list_store_own H S (i := 3) rfl rfl rfl (by omega) (by omega) sz_42 rfl ?_) | (refine list_store_own H S (i := 4) rfl rfl rfl (by omega) (by omega) sz_42 rfl ?_) | (refine list_store_own H S (i := 5) rfl rfl rfl (by omega) (by omega) sz_42 rfl ?_)
  clear H a S; intro _ a S H
  refine list_does H rfl (does_assign rfl) ?_; clear H a; intro a H
  refine hK3 _ _ ?_
  clear hK3 K3
  replace H := H.keep [1, 2, 3, 4, 5, 6] rfl
  refine seq_list (fun K4 hK4 => ?_)
  refine list_does H rfl (by first | exact does_loadBox agg_23 sz_23 rfl S (i := 0) rfl rfl | exact does_loadBox agg_23 sz_23 rfl S (i := 1) rfl rfl | exact does_loadBox agg_23 sz_23 rfl S (i := 2) rfl rfl | exact does_loadBox agg_23 sz_23 rfl S (i := 3) rfl rfl | exact does_loadBox agg_23 sz_23 rfl S (i := 4) rfl rfl | exact does_loadBox agg_23 sz_23 rfl S (i := 5) rfl rfl) ?_; clear H a; intro a H
  refine list_does H rfl (does_move rfl) ?_; clear H a; intro a H
  refine list_call H rfl rfl Try.func19 rfl rfl (ret_imp (chain_Witness 4 100 110 exL A1 2 0 4 421 _ (ownM.inS S (i := 3) rfl) (by decide)) (fun _ _ h => wit_ok ex_wit h)) ?_; clear H a
  rintro _ _ a ⟨A4, c4, rfl, S2⟩ H
  replace S := S.call S2; clear S2
  refine list_does H rfl (does_move rfl) ?_; clear H a; intro a H
  refine list_does H rfl (does_extract rfl rfl) ?_; clear H a; intro a H
  refine list_does H rfl (does_extract rfl rfl) ?_; clear H a; intro a H
  refine list_does H rfl (does_assign rfl) ?_; clear H a; intro a H
  refine list_does H rfl (does_assign rfl) ?_; clear H a; intro a H
  refine hK4 _ _ ?_
  clear hK4 K4
  replace H := H.keep [3, 4, 5, 6, 7, 8] rfl
  refine seq_list (fun K5 hK5 => ?_)
  refine list_does H rfl (by first | exact does_loadBox agg_62 sz_62 rfl S (i := 0) rfl rfl | exact does_loadBox agg_62 sz_62 rfl S (i := 1) rfl rfl | exact does_loadBox agg_62 sz_62 rfl S (i := 2) rfl rfl | exact does_loadBox agg_62 sz_62 rfl S (i := 3) rfl rfl | exact does_loadBox agg_62 sz_62 rfl S (i := 4) rfl rfl | exact does_loadBox agg_62 sz_62 rfl S (i := 5) rfl rfl | exact does_loadBox agg_62 sz_62 rfl S (i := 6) rfl rfl) ?_; clear H a; intro a H
  refine list_does H rfl (does_move rfl) ?_; clear H a; intro a H
  refine list_call H rfl rfl Try.func39 rfl rfl (ret_imp (chain_Due exP.rates 1 300000 1000 A2 2 exU A3 2 0 1000 _ (ownM.inS S (i := 5) rfl) (by decide) (ownM.inS S (i := 6) rfl) (by decide)) (fun _ _ h => (⟨h.1.trans (due_val ex_due), h.2⟩ : _ ∧ _))) ?_; clear H a
  rintro _ _ a ⟨rfl, S2⟩ H
  replace S := S.call S2; clear S2
  refine list_does H rfl (does_move rfl) ?_; clear H a; intro a H
  refine list_does H rfl (does_extract rfl rfl) ?_; clear H a; intro a H
  refine list_does H rfl (does_extract rfl rfl) ?_; clear H a; intro a H
  refine list_does H rfl (does_assign rfl) ?_; clear H a; intro a H
  refine list_does H rfl (does_assign rfl) ?_; clear H a; intro a H
  refine hK5 _ _ ?_
  clear hK5 K5
  replace H := H.keep [5, 6, 7, 8, 9, 10] rfl
  refine seq_list (fun K6 hK6 => ?_)
  refine list_does H rfl (does_move rfl) ?_; clear H a; intro a H
  refine list_does H rfl (does_eql rfl rfl) ?_; clear H a; intro a H
  refine list_does H rfl (does_move rfl) ?_; clear H a; intro a H
  refine list_yes H rfl rfl ?_
  refine list_does H rfl (does_move rfl) ?_; clear H a; intro a H
  refine list_yes H rfl rfl ?_
  refine list_does H rfl (does_eql rfl rfl) ?_; clear H a; intro a H
  refine list_does H rfl (by first | exact does_and rfl rfl rfl | exact does_pick rfl rfl rfl) ?_; clear H a; intro a H
  refine list_does H rfl (does_move rfl) ?_; clear H a; intro a H
  refine list_yes H rfl rfl ?_
  refine list_does H rfl (does_move rfl) ?_; clear H a; intro a H
  refine list_yes H rfl rfl ?_
  refine list_does H rfl (does_eql rfl rfl) ?_; clear H a; intro a H
  refine list_does H rfl (by first | exact does_and rfl rfl rfl | exact does_pick rfl rfl rfl) ?_; clear H a; intro a H
  refine list_does H rfl (does_move rfl) ?_; clear H a; intro a H
  refine list_yes H rfl rfl ?_
  refine list_does H rfl (by first | exact does_loadBox agg_42 sz_42 rfl S (i := 0) rfl rfl | exact does_loadBox agg_42 sz_42 rfl S (i := 1) rfl rfl | exact does_loadBox agg_42 sz_42 rfl S (i := 2) rfl rfl | exact does_loadBox agg_42 sz_42 rfl S (i := 3) rfl rfl | exact does_loadBox agg_42 sz_42 rfl S (i := 4) rfl rfl | exact does_loadBox agg_42 sz_42 rfl S (i := 5) rfl rfl | exact does_loadBox agg_42 sz_42 rfl S (i := 6) rfl rfl) ?_; clear H a; intro a H
  refine list_yes H rfl rfl ?_
  refine list_does H rfl (does_build bt_42 rfl rfl) ?_; clear H a; intro a H
  refine list_yes H rfl rfl ?_
  refine list_does H rfl (does_eql_span rfl rfl) ?_; clear H a; intro a H
  refine list_does H rfl (by first | exact does_and rfl rfl rfl | exact does_pick rfl rfl rfl) ?_; clear H a; intro a H
  refine list_does H rfl (does_move rfl) ?_; clear H a; intro a H
  refine list_yes H rfl rfl ?_
  refine list_does H rfl (does_move rfl) ?_; clear H a; intro a H
  refine list_yes H rfl rfl ?_
  refine list_build' H rfl S sl_29 sz_3 ze_3 rfl rfl rfl rfl rfl rfl rfl rfl rfl ?_; clear H a S; intro A1 _ a hA1 S H
  refine list_yes H rfl rfl ?_
  refine list_call H rfl rfl Try.func22 rfl rfl (ret_imp (law_sameInts A4 _ 4 4 c4 4 (witN exS) exW _ (ownM.inS S (i := 1) rfl) ((ownM.inS S (i := 0) rfl).congr (fun k j hk hj => lit4 hk hj)) (by decide) (by decide)) (fun _ _ h => (⟨h.1.trans (congrArg Value.bool (sameB_self 4 _ _ exw)), h.2⟩ : _ ∧ _))) ?_; clear H a
  rintro _ _ a ⟨rfl, S2⟩ H
  replace S := S.call S2; clear S2
  refine list_does H rfl (by first | exact does_and rfl rfl rfl | exact does_pick rfl rfl rfl) ?_; clear H a; intro a H
  refine list_does H rfl (does_move rfl) ?_; clear H a; intro a H
  refine list_yes H rfl rfl ?_
  refine list_does H rfl (does_move rfl) ?_; clear H a; intro a H
  refine list_yes H rfl rfl ?_
  refine list_does H rfl (does_eql rfl rfl) ?_; clear H a; intro a H
  refine list_does H rfl (by first | exact does_and rfl rfl rfl | exact does_pick rfl rfl rfl) ?_; clear H a; intro a H
  refine list_does H rfl (does_assign rfl) ?_; clear H a; intro a H
  refine hK6 _ _ ?_
  clear hK6 K6
  refine wp_ret ?_
  refine ret1 (fn := Try.f18) rfl H rfl ?_
  exact ⟨rfl, (S.sel [] rfl rfl)⟩

end Go.Proofs.Ytlejjfhgfajoiaa
