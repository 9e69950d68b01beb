/- RwW. Printed by gen.py. -/
import Derived.Test.YtlmddkekeoebcaaRwB
import Derived.Test.YtlmddkekeoebcaaWyI
import Derived.Test.YtlmddkekeoebcaaE5
namespace Go.Proofs.Ytlmddkekeoebcaa
open Go.RowKit
set_option linter.unusedVariables false
set_option linter.unusedSimpArgs false
set_option maxRecDepth 100000
set_option maxHeartbeats 4000000


theorem icl_wcl : ∀ k j, k < 3 → j < 1 → wcl [2, 3, 4] k j = icl [2, 3, 4] k j := fun k j hk _ => by
  match k, hk with
  | 0, _ => rfl
  | 1, _ => rfl
  | 2, _ => rfl
theorem ways_Way_ex (A : Option Addr) (c : Nat) (B : Option Addr) (d : Nat) (w : World) (hps : InS w noF 7 A 5 (pcell exW)) (hxs : InS w noF 1 B 1 (icl exX)) :
    Calls Try.prog 21 [.agg [.int .i64 4, .slice A 5 c, .slice B 1 d].toArray, .int .i64 0, .bool true, .int .i64 0, .int .i64 3].toArray w (Ret fun u w' => ∃ A c, u = .tuple #[.int .i64 8, .slice A 3 c, .int .i64 0] ∧ St w noF [ownM 3 1 A 3 c (icl [2, 3, 4])] w') := by
  refine ret_imp (ways_Way 4 exW A c exX B d 0 true 0 3 w hps (by decide) hxs (by decide)) fun u w' h => ?_
  have e1 : askE 4 exW exX 0 [0, 3] = 0 := by decide +kernel
  have e2 : dst (4 : Int).toNat exW 0 true (3 : Int).toNat (0 : Int).toNat = 8 := ex_dst
  have e3 : wayL (4 : Int).toNat exW 0 true (0 : Int).toNat (3 : Int).toNat = [2, 3, 4] := ex_way
  rcases h with ⟨h, _⟩ | ⟨_, _, ⟨h, _⟩ | ⟨_, A1, c1, h1, h2⟩⟩
  · exact absurd e1 h
  · rw [e2] at h; omega
  · rw [e2, e3] at h1
    rw [e3] at h2
    exact ⟨A1, c1, h1, h2.recell (i := 0) rfl icl_wcl⟩
theorem cut_cells : ∀ k j, k < 4 → j < 1 → ncl (mfc 4 4 exP exX (hds 0 exX exW)) k j = icl [0, 3, 5, 5] k j := fun k j hk _ => by
  unfold ncl icl
  rw [ex_cut k hk]
  match k, hk with
  | 0, _ => rfl
  | 1, _ => rfl
  | 2, _ => rfl
  | 3, _ => rfl
theorem ways_Cut_ex (A : Option Addr) (c : Nat) (B : Option Addr) (d : Nat) (w : World) (hps : InS w noF 7 A 5 (pcell exW)) (hxs : InS w noF 1 B 1 (icl exX)) (D : Option Addr) (q : Nat) (hpe : InS w noF 1 D 4 (icl exP)) :
    Calls Try.prog 32 [.agg [.int .i64 4, .slice A 5 c, .slice B 1 d].toArray, .int .i64 0, .slice D 4 q, .int .i64 4].toArray w (Ret fun u w' => ∃ A c, u = .tuple #[.slice A 4 c, .int .i64 0] ∧ St w noF [ownM 3 1 A 4 c (icl [0, 3, 5, 5])] w') := by
  refine ret_imp (ways_Cut 4 exW A c exX B d 0 exP D q 4 w hps (by decide) hxs (by decide) hpe (by decide)) fun u w' h => ?_
  have e1 : leaveE 4 exW exX 0 exP 4 = 0 := by decide +kernel
  rcases h with ⟨h, _⟩ | ⟨_, A1, c1, h1, h2⟩
  · exact absurd e1 h
  · exact ⟨A1, c1, h1, h2.recell (i := 0) rfl cut_cells⟩
theorem ex_pas {x1 x2 x3 x4 x5 : List Value} (h : [x1, x2, x3, x4, x5] = exW.map fun p => [.int .i64 p.a, .int .i64 p.b, .int .i64 p.kind, .int .i64 p.ticks, .int .i64 p.wide, .int .i64 p.mach, .int .i64 p.still]) : ∀ k j, k < 5 → j < 7 → ([x1, x2, x3, x4, x5].getD k []).getD j undef = pcell exW k j := by
  rw [h]
  intro k j hk hj
  match k, hk with
  | 0, _ => exact seven (p := fun j => ((exW.map fun p => [Value.int .i64 p.a, .int .i64 p.b, .int .i64 p.kind, .int .i64 p.ticks, .int .i64 p.wide, .int .i64 p.mach, .int .i64 p.still]).getD 0 []).getD j undef = pcell exW 0 j) rfl rfl rfl rfl rfl rfl rfl j hj
  | 1, _ => exact seven (p := fun j => ((exW.map fun p => [Value.int .i64 p.a, .int .i64 p.b, .int .i64 p.kind, .int .i64 p.ticks, .int .i64 p.wide, .int .i64 p.mach, .int .i64 p.still]).getD 1 []).getD j undef = pcell exW 1 j) rfl rfl rfl rfl rfl rfl rfl j hj
  | 2, _ => exact seven (p := fun j => ((exW.map fun p => [Value.int .i64 p.a, .int .i64 p.b, .int .i64 p.kind, .int .i64 p.ticks, .int .i64 p.wide, .int .i64 p.mach, .int .i64 p.still]).getD 2 []).getD j undef = pcell exW 2 j) rfl rfl rfl rfl rfl rfl rfl j hj
  | 3, _ => exact seven (p := fun j => ((exW.map fun p => [Value.int .i64 p.a, .int .i64 p.b, .int .i64 p.kind, .int .i64 p.ticks, .int .i64 p.wide, .int .i64 p.mach, .int .i64 p.still]).getD 3 []).getD j undef = pcell exW 3 j) rfl rfl rfl rfl rfl rfl rfl j hj
  | 4, _ => exact seven (p := fun j => ((exW.map fun p => [Value.int .i64 p.a, .int .i64 p.b, .int .i64 p.kind, .int .i64 p.ticks, .int .i64 p.wide, .int .i64 p.mach, .int .i64 p.still]).getD 4 []).getD j undef = pcell exW 4 j) rfl rfl rfl rfl rfl rfl rfl j hj
theorem cells1 {x : Int} : ∀ k j, k < 1 → j < 1 → ([[Value.int .i64 x]].getD k []).getD j undef = icl [x] k j := fun k j hk hj => by
  have e : k = 0 := by omega
  have e2 : j = 0 := by omega
  subst e; subst e2; rfl
theorem cells3 {x y z : Int} : ∀ k j, k < 3 → j < 1 → ([[Value.int .i64 x], [.int .i64 y], [.int .i64 z]].getD k []).getD j undef = icl [x, y, z] k j := fun k j hk hj => by
  have e2 : j = 0 := by omega
  subst e2
  match k, hk with
  | 0, _ => rfl
  | 1, _ => rfl
  | 2, _ => rfl
theorem cells4 {x y z t : Int} : ∀ k j, k < 4 → j < 1 → ([[Value.int .i64 x], [.int .i64 y], [.int .i64 z], [.int .i64 t]].getD k []).getD j undef = icl [x, y, z, t] k j := fun k j hk hj => by
  have e2 : j = 0 := by omega
  subst e2
  match k, hk with
  | 0, _ => rfl
  | 1, _ => rfl
  | 2, _ => rfl
  | 3, _ => rfl


theorem law_Example (w : World) :
    Calls Try.prog 49 [].toArray w (Ret (fun u w' => ∃ A c B d, u = .agg [.int .i64 4, .slice A 5 c, .slice B 1 d].toArray ∧ St w noF [ownM 45 7 A 5 c (pcell exW), ownM 3 1 B 1 d (icl exX)] w')) := by
 refine enter Try.func49 rfl Try.ntmps49 rfl (fun a H => ?_)
 have S := St.start w
 refine seq_list fun K1 k1 => ?_
 refine list_alloc H rfl S ze_25 ?_;clear H a S;intro b0 _ a hb0 hbw0 S H
 refine k1 _ _ ?_;clear k1 K1
 replace H := H.keep [0] rfl
 refine seq_list fun K2 k2 => ?_
 refine list_build' H rfl S sl_23 sz_3 ze_3 rfl rfl rfl rfl rfl rfl rfl rfl rfl ?_;clear H a S;intro A1 _ a hA1 S H
 replace S := S.recell (i := 0) rfl (cell' := icl exX) (fun k j hk hj => cells1 k j hk hj)
 refine ls 5 H <| sd (does_build bt_45 rfl rfl) <| sd (does_build bt_45 rfl rfl) <| sd (does_build bt_45 rfl rfl) <| sd (does_build bt_45 rfl rfl) <| sd (does_build bt_45 rfl rfl) <| sE ?_;clear H a;intro a H
 refine list_build' H rfl S sl_22 sz_45 ze_45 rfl rfl rfl rfl rfl rfl rfl rfl rfl ?_;clear H a S;intro A2 _ a hA2 S H
 replace S := S.recell (i := 0) rfl (cell' := pcell exW) (fun k j hk hj => ex_pas rfl k j hk hj)
 refine ls 1 H <| sd (does_build bt_25 rfl rfl) <| sE ?_;clear H a;intro a H
 refine list_store H S (i := 2) rfl rfl rfl rfl sz_25 rfl rfl ?_
 clear H a S;intro _ a S H
 refine k2 _ _ ?_;clear k2 K2
 refine wp_ret ?_
 refine retA (fn := Try.f49) rfl H rfl agg_25 (by exact sz_25) (boxAgg S (i := 2) rfl) ?_
 exact ⟨_, _, _, _, rfl, (S.sel [0, 1] rfl rfl)⟩

theorem law_works (w : World) :
    Calls Try.prog 15 [].toArray w (Ret (fun u w' => u = .bool true ∧ St w noF [] w')) := by
 refine enter Try.func15 rfl Try.ntmps15 rfl (fun a H => ?_)
 have S := St.start w
 refine sS H fun K1 k1=>sr 1 rfl <| sE ?_;clear H a;intro a H
 refine k1 _ ?_;clear k1 K1
 refine seq_list fun K2 k2 => ?_
 refine list_call H rfl rfl Try.func49 rfl rfl (law_Example _) ?_;clear H a
 rintro _ _ a ⟨A5, c5, B5, d5, rfl, S2⟩ H
 replace S := S.call S2;clear S2
 refine list_alloc H rfl S ze_25 ?_;clear H a S;intro b1 _ a hb1 hbw1 S H
 refine list_store H S (i := 0) rfl rfl rfl rfl sz_25 rfl rfl ?_
 clear H a S;intro _ a S H
 refine k2 _ _ ?_;clear k2 K2
 replace H := H.keep [1] rfl
 refine seq_list fun K3 k3 => ?_
 refine ls 1 H <| sd ((does_loadBox agg_25 sz_25 rfl S (i := 0) rfl rfl)) <| sE ?_;clear H a;intro a H
 refine list_call H rfl rfl Try.func21 rfl rfl (ways_Way_ex A5 c5 B5 d5 _ (ownM.inS S (i := 1) rfl) (ownM.inS S (i := 2) rfl)) ?_;clear H a
 rintro _ _ a ⟨A6, c6, rfl, S2⟩ H
 replace S := S.call S2;clear S2
 refine ls 7 H <| sr 7 rfl <| sE ?_;clear H a;intro a H
 refine k3 _ _ ?_;clear k3 K3
 replace H := H.keep [1, 2, 3, 4] rfl
 refine seq_list fun K4 k4 => ?_
 refine ls 1 H <| sd ((does_loadBox agg_25 sz_25 rfl S (i := 1) rfl rfl)) <| sE ?_;clear H a;intro a H
 refine list_build' H rfl S sl_23 sz_3 ze_3 rfl rfl rfl rfl rfl rfl rfl rfl rfl ?_;clear H a S;intro A1 _ a hA1 S H
 refine list_call H rfl rfl Try.func32 rfl rfl (ways_Cut_ex A5 c5 B5 d5 _ (ownM.inS S (i := 3) rfl) (ownM.inS S (i := 4) rfl) _ _ ((ownM.inS S (i := 0) rfl).congr (fun k j hk hj => cells4 k j hk hj))) ?_;clear H a
 rintro _ _ a ⟨A7, c7, rfl, S2⟩ H
 replace S := S.call S2;clear S2
 refine ls 5 H <| sr 5 rfl <| sE ?_;clear H a;intro a H
 refine k4 _ _ ?_;clear k4 K4
 replace H := H.keep [2, 3, 4, 5, 6] rfl
 refine seq_list fun K5 k5 => ?_
 refine ls 12 H <| sr 3 rfl <| sy rfl <| sr 1 rfl <| sy rfl <| sr 1 rfl <| sa rfl rfl rfl <| sr 1 rfl <| sy rfl <| sr 1 rfl <| sy rfl <| sr 1 rfl <| sa rfl rfl rfl <| sr 1 rfl <| sy rfl <| sr 1 rfl <| sE ?_;clear H a;intro a H
 refine list_yes H rfl rfl ?_
 refine list_build' H rfl S sl_23 sz_3 ze_3 rfl rfl rfl rfl rfl rfl rfl rfl rfl ?_;clear H a S;intro A2 _ a hA2 S H
 refine list_yes H rfl rfl ?_
 refine list_call H rfl rfl Try.func23 rfl rfl (law_same [2, 3, 4] [2, 3, 4] A6 _ c6 _ _ (ownM.inS S (i := 3) rfl) ((ownM.inS S (i := 0) rfl).congr (fun k j hk hj => cells3 k j hk hj)) (by decide) (by decide)) ?_;clear H a
 rintro _ _ a ⟨rfl, S2⟩ H
 replace S := S.call S2;clear S2
 refine ls 3 H <| sa rfl rfl rfl <| sr 1 rfl <| sy rfl <| sr 1 rfl <| sE ?_;clear H a;intro a H
 refine list_yes H rfl rfl ?_
 refine list_build' H rfl S sl_23 sz_3 ze_3 rfl rfl rfl rfl rfl rfl rfl rfl rfl ?_;clear H a S;intro A3 _ a hA3 S H
 refine list_yes H rfl rfl ?_
 refine list_call H rfl rfl Try.func23 rfl rfl (law_same [0, 3, 5, 5] [0, 3, 5, 5] A7 _ c7 _ _ (ownM.inS S (i := 2) rfl) ((ownM.inS S (i := 0) rfl).congr (fun k j hk hj => cells4 k j hk hj)) (by decide) (by decide)) ?_;clear H a
 rintro _ _ a ⟨rfl, S2⟩ H
 replace S := S.call S2;clear S2
 refine ls 2 H <| sa rfl rfl rfl <| sr 1 rfl <| sE ?_;clear H a;intro a H
 refine k5 _ _ ?_;clear k5 K5
 refine wp_ret ?_
 refine ret1 (fn := Try.f15) rfl H rfl ?_
 exact ⟨rfl, (S.sel [] rfl rfl)⟩

end Go.Proofs.Ytlmddkekeoebcaa
