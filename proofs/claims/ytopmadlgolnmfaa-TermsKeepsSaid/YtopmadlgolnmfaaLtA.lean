/- LtA. Printed by gen.py. -/
import Derived.Test.YtopmadlgolnmfaaTmF
import Derived.Test.YtopmadlgolnmfaaH2
import Derived.Test.YtopmadlgolnmfaaExV
import Derived.Test.YtopmadlgolnmfaaRwB
import Derived.Test.YtopmadlgolnmfaaRfD
import Derived.Test.YtopmadlgolnmfaaTre4
namespace Go.Proofs.Ytopmadlgolnmfaa
open Go.RowKit
set_option linter.unusedVariables false
set_option linter.unusedSimpArgs false
set_option maxRecDepth 100000
set_option maxHeartbeats 4000000


theorem ex_pas {x1 x2 x3 x4 x5 : List Value} (h : [x1, x2, x3, x4, x5] = w8exW.map fun p => [.int .i64 p.a, .int .i64 p.b, .int .i64 p.kind, .int .i64 p.ticks, .int .i64 p.wide, .int .i64 p.mach, .int .i64 p.still]) : ∀ k j, k < 5 → j < 7 → ([x1, x2, x3, x4, x5].getD k []).getD j undef = pcell w8exW k j := by
  rw [h]
  intro k j hk hj
  match k, hk with
  | 0, _ => exact seven (p := fun j => ((w8exW.map fun p => [Value.int .i64 p.a, .int .i64 p.b, .int .i64 p.kind, .int .i64 p.ticks, .int .i64 p.wide, .int .i64 p.mach, .int .i64 p.still]).getD 0 []).getD j undef = pcell w8exW 0 j) rfl rfl rfl rfl rfl rfl rfl j hj
  | 1, _ => exact seven (p := fun j => ((w8exW.map fun p => [Value.int .i64 p.a, .int .i64 p.b, .int .i64 p.kind, .int .i64 p.ticks, .int .i64 p.wide, .int .i64 p.mach, .int .i64 p.still]).getD 1 []).getD j undef = pcell w8exW 1 j) rfl rfl rfl rfl rfl rfl rfl j hj
  | 2, _ => exact seven (p := fun j => ((w8exW.map fun p => [Value.int .i64 p.a, .int .i64 p.b, .int .i64 p.kind, .int .i64 p.ticks, .int .i64 p.wide, .int .i64 p.mach, .int .i64 p.still]).getD 2 []).getD j undef = pcell w8exW 2 j) rfl rfl rfl rfl rfl rfl rfl j hj
  | 3, _ => exact seven (p := fun j => ((w8exW.map fun p => [Value.int .i64 p.a, .int .i64 p.b, .int .i64 p.kind, .int .i64 p.ticks, .int .i64 p.wide, .int .i64 p.mach, .int .i64 p.still]).getD 3 []).getD j undef = pcell w8exW 3 j) rfl rfl rfl rfl rfl rfl rfl j hj
  | 4, _ => exact seven (p := fun j => ((w8exW.map fun p => [Value.int .i64 p.a, .int .i64 p.b, .int .i64 p.kind, .int .i64 p.ticks, .int .i64 p.wide, .int .i64 p.mach, .int .i64 p.still]).getD 4 []).getD j undef = pcell w8exW 4 j) rfl rfl rfl rfl rfl rfl rfl j hj
theorem cells1 {x : Int} : ∀ k j, k < 1 → j < 1 → ([[Value.int .i64 x]].getD k []).getD j undef = icl [x] k j := fun k j hk hj => by
  have e : k = 0 := by omega
  have e2 : j = 0 := by omega
  subst e; subst e2; rfl
theorem cells4 {x y z t : Int} : ∀ k j, k < 4 → j < 1 → ([[Value.int .i64 x], [.int .i64 y], [.int .i64 z], [.int .i64 t]].getD k []).getD j undef = icl [x, y, z, t] k j := fun k j hk hj => by
  have e2 : j = 0 := by omega
  subst e2
  match k, hk with
  | 0, _ => rfl
  | 1, _ => rfl
  | 2, _ => rfl
  | 3, _ => rfl

theorem ex_prs {x1 x2 : List Value} (h : [x1, x2] = exPr.map fun p => [.int .i64 p.fr, .int .i64 p.to, .int .i64 p.first, .int .i64 p.last, .bool p.helped]) : ∀ k j, k < 2 → j < 5 → ([x1, x2].getD k []).getD j undef = prcell exPr k j := by
  rw [h]
  intro k j hk hj
  have hj' : j = 0 ∨ j = 1 ∨ j = 2 ∨ j = 3 ∨ j = 4 := by omega
  have hk' : k = 0 ∨ k = 1 := by omega
  rcases hk' with rfl | rfl <;> rcases hj' with rfl | rfl | rfl | rfl | rfl <;> rfl
theorem ex_us {x1 x2 : List Value} {RA : Option Addr} {rc : Nat} (h : [x1, x2] = (exU RA rc).map fun u => [.int .i64 u.mach, .int .i64 u.every, .int .i64 u.seen, .slice u.RA u.rates.length u.rc, .int .i64 u.worn, .int .i64 u.turns, .int .i64 u.age, .slice u.UA u.uses.length u.uc, .int .i64 u.old, .int .i64 u.tn, .int .i64 u.cl, .int .i64 u.kind]) : ∀ k j, k < 2 → j < 12 → ([x1, x2].getD k []).getD j undef = vcell (exU RA rc) k j := by
  rw [h]
  intro k j hk hj
  have hj' : j = 0 ∨ j = 1 ∨ j = 2 ∨ j = 3 ∨ j = 4 ∨ j = 5 ∨ j = 6 ∨ j = 7 ∨ j = 8 ∨ j = 9 ∨ j = 10 ∨ j = 11 := by omega
  have hk' : k = 0 ∨ k = 1 := by omega
  rcases hk' with rfl | rfl <;> rcases hj' with rfl | rfl | rfl | rfl | rfl | rfl | rfl | rfl | rfl | rfl | rfl | rfl <;> rfl
theorem ex_rt : ∀ k j, k < 1 → j < 2 → ([[Value.int .i64 1, .int .i64 2]].getD k []).getD j undef = scell [(1, 2)] k j := fun k j hk hj => by
  have hk' : k = 0 := by omega
  have hj' : j = 0 ∨ j = 1 := by omega
  subst hk'
  rcases hj' with rfl | rfl <;> rfl
theorem ex_tk : ∀ k j, k < 1 → j < 3 → ([[Value.int .i64 1, .int .i64 1, .int .i64 1]].getD k []).getD j undef = tkcell exJob k j := fun k j hk hj => by
  have hk' : k = 0 := by omega
  have hj' : j = 0 ∨ j = 1 ∨ j = 2 := by omega
  subst hk'
  rcases hj' with rfl | rfl | rfl <;> rfl
section
variable {w : World} {F : Nat → Prop} {PA : Option Addr} {pc : Nat} {XA : Option Addr} {xc : Nat} {BA : Option Addr} {bc : Nat} {QA : Option Addr} {qc : Nat} {VA : Option Addr} {vc : Nat} {RA : Option Addr} {rc : Nat}
theorem exY_in (h1 : InS w F 7 PA 5 (pcell w8exW)) (h2 : InS w F 1 XA 1 (icl exX)) (h3 : InS w F 1 BA 4 (icl w8exP)) (h4 : InS w F 5 QA 2 (prcell exPr)) (h5 : InS w F 12 VA 2 (vcell (exU RA rc))) (h6 : InS w F 2 RA 1 (scell [(1, 2)])) : YIn w F (exYr PA pc XA xc BA bc QA qc VA vc RA rc) :=
  ⟨h1, h2, h3, h4, h5, InS.nil, fun k hk => by
    have hk' : k = 0 ∨ k = 1 := by have : k < 2 := hk; omega
    rcases hk' with rfl | rfl <;> exact h6, fun k hk => by
    have hk' : k = 0 ∨ k = 1 := by have : k < 2 := hk; omega
    rcases hk' with rfl | rfl <;> exact InS.nil⟩
theorem exY_bd : YBd (exYr PA pc XA xc BA bc QA qc VA vc RA rc) := by
  have two : ∀ {p : Nat → Prop}, p 0 → p 1 → ∀ k, k < 2 → p k := fun h0 h1 k hk => by
    have hk' : k = 0 ∨ k = 1 := by omega
    rcases hk' with rfl | rfl
    · exact h0
    · exact h1
  exact ⟨by show 5 * 56 ≤ _; decide, by show 1 * 8 ≤ _; decide, by show 4 * 8 ≤ _; decide, by show 2 * 40 ≤ _; decide, by show 2 * 120 ≤ _; decide, by show 0 * 24 ≤ _; decide, two (by show 1 * 16 ≤ _; decide) (by show 1 * 16 ≤ _; decide), two (by show 0 * 48 ≤ _; decide) (by show 0 * 48 ≤ _; decide), two (by show 0 ≤ 0; decide) (by show 0 ≤ 0; decide)⟩
theorem ex_sets : ∀ k j, k < 4 → j < 1 → setsV (exYr PA pc XA xc BA bc QA qc VA vc RA rc) exJob (exYr PA pc XA xc BA bc QA qc VA vc RA rc).us.length k j = icl [0, 3, 1, 1] k j := fun k j hk hj => by
  unfold setsV icl
  rw [exOo (by omega)]
theorem tm_Out_ex (hy : YIn w noF (exYr PA pc XA xc BA bc QA qc VA vc RA rc)) {TA : Option Addr} {tc : Nat} (hl : InS w noF 3 TA 1 (tkcell exJob)) :
    Calls Try.prog 13 [.agg [.int .i64 4, .int .i64 4, .slice PA 5 pc, .slice XA 1 xc, .slice BA 4 bc, .int .i64 6, .bool false, .slice QA 2 qc, .slice VA 2 vc, .int .i64 1, .slice none 0 0].toArray, .slice TA 1 tc].toArray w (Ret fun v w' => ∃ A c, v = .tuple #[.slice A 4 c, .int .i64 0] ∧ St w noF [ownM 3 1 A 4 c (icl [0, 3, 1, 1])] w') := by
  have hh := tm_Out (exYr PA pc XA xc BA bc QA qc VA vc RA rc) exJob TA tc w hy exY_bd hl (by decide)
  refine ret_imp hh fun v w' h => ?_
  rcases h with ⟨h0, _⟩ | ⟨_, A, c, h1, h2⟩
  · exact absurd exY_one h0
  · exact ⟨A, c, h1, h2.recell (i := 0) rfl ex_sets⟩
theorem tm_Judge_ex (hy : YIn w noF (exYr PA pc XA xc BA bc QA qc VA vc RA rc)) :
    Calls Try.prog 12 [.agg [.int .i64 4, .int .i64 4, .slice PA 5 pc, .slice XA 1 xc, .slice BA 4 bc, .int .i64 6, .bool false, .slice QA 2 qc, .slice VA 2 vc, .int .i64 1, .slice none 0 0].toArray, .slice none 0 0].toArray w (Ret fun v w' => v = .tuple #[.int .i64 3, .int .i64 3, .int .i64 0] ∧ St w noF [] w') := by
  have hh := tm_Judge (exYr PA pc XA xc BA bc QA qc VA vc RA rc) [] none 0 w hy exY_bd InS.nil (by decide)
  refine ret_imp hh fun v w' h => ?_
  rcases h with ⟨h0, _⟩ | ⟨_, h1, h2⟩
  · exact absurd exY_nil h0
  · rw [ex_judge] at h1
    exact ⟨h1, h2⟩
end


theorem law8_Example (w : World) :
    Calls Try.prog 59 [].toArray w (Ret (fun u w' => ∃ A c B d, u = .agg [.int .i64 4, .slice A 5 c, .slice B 1 d].toArray ∧ St w noF [ownM 128 7 A 5 c (pcell w8exW), ownM 3 1 B 1 d (icl exX)] w')) := by
 refine enter Try.func59 rfl Try.ntmps59 rfl (fun a H => ?_)
 have S := St.start w
 refine seq_list fun K1 k1 => ?_
 refine list_alloc H rfl S ze_25 ?_;clear H a S;intro b0 _ a hb0 hbw0 S H
 refine k1 _ _ ?_;clear k1 K1
 replace H := H.keep [0] rfl
 refine seq_list fun K2 k2 => ?_
 refine list_build' H rfl S sl_23 sz_3 ze_3 rfl rfl rfl rfl rfl rfl rfl rfl rfl ?_;clear H a S;intro A1 _ a hA1 S H
 replace S := S.recell (i := 0) rfl (cell' := icl exX) (fun k j hk hj => cells1 k j hk hj)
 refine ls 5 H <| sd (does_build bt_128 rfl rfl) <| sd (does_build bt_128 rfl rfl) <| sd (does_build bt_128 rfl rfl) <| sd (does_build bt_128 rfl rfl) <| sd (does_build bt_128 rfl rfl) <| sE ?_;clear H a;intro a H
 refine list_build' H rfl S sl_22 sz_128 ze_128 rfl rfl rfl rfl rfl rfl rfl rfl rfl ?_;clear H a S;intro A2 _ a hA2 S H
 replace S := S.recell (i := 0) rfl (cell' := pcell w8exW) (fun k j hk hj => ex_pas rfl k j hk hj)
 refine ls 1 H <| sd (does_build bt_25 rfl rfl) <| sE ?_;clear H a;intro a H
 refine list_store H S (i := 2) rfl rfl rfl rfl sz_25 rfl rfl ?_
 clear H a S;intro _ a S H
 refine k2 _ _ ?_;clear k2 K2
 refine wp_ret ?_
 refine retA (fn := Try.f59) rfl H rfl agg_25 (by exact sz_25) (boxAgg S (i := 2) rfl) ?_
 exact ⟨_, _, _, _, rfl, (S.sel [0, 1] rfl rfl)⟩

theorem law12_Example (w : World) :
    Calls Try.prog 35 [].toArray w (Ret (fun u w' => ∃ PA pc XA xc BA bc QA qc VA vc RA rc, u = .agg [.int .i64 4, .int .i64 4, .slice PA 5 pc, .slice XA 1 xc, .slice BA 4 bc, .int .i64 6, .bool false, .slice QA 2 qc, .slice VA 2 vc, .int .i64 1, .slice none 0 0].toArray ∧ St w noF [ownM 128 7 PA 5 pc (pcell w8exW), ownM 3 1 XA 1 xc (icl exX), ownM 3 1 BA 4 bc (icl w8exP), ownM 95 5 QA 2 qc (prcell exPr), ownM 65 12 VA 2 vc (vcell (exU RA rc)), ownM 68 2 RA 1 rc (scell [(1, 2)])] w')) := by
 refine enter Try.func35 rfl Try.ntmps35 rfl (fun a H => ?_)
 have S := St.start w
 refine seq_list fun K1 k1 => ?_
 refine list_alloc H rfl S ze_30 ?_;clear H a S;intro b0 _ a hb0 hbw0 S H
 refine k1 _ _ ?_;clear k1 K1
 refine seq_list fun K2 k2 => ?_
 refine ls 1 H <| sd (does_build bt_68 rfl rfl) <| sE ?_;clear H a;intro a H
 refine list_build' H rfl S sl_58 sz_68 ze_68 rfl rfl rfl rfl rfl rfl rfl rfl rfl ?_;clear H a S;intro A1 _ a hA1 S H
 replace S := S.recell (i := 0) rfl (cell' := scell [(1, 2)]) (fun k j hk hj => ex_rt k j hk hj)
 refine ls 1 H <| sd (does_build bt_62 rfl rfl) <| sE ?_;clear H a;intro a H
 refine list_alloc H rfl S ze_62 ?_;clear H a S;intro b1 _ a hb1 hbw1 S H
 refine list_store H S (i := 0) rfl rfl rfl rfl sz_62 rfl rfl ?_
 clear H a S;intro _ a S H
 refine k2 _ _ ?_;clear k2 K2
 replace H := H.keep [0, 1] rfl
 replace S := S.drew
 refine seq_xt 11 (.q 2 (.q 3 (.q 5 (.q 6 (.q 7 (.q 8 (.b4 0 (.b3 1 (.b2 4 (.e 9 (.q 10 (.e 11 .nil))) 9 (.e 4 (.q 10 (.e 11 .nil)))) 4 (.b2 1 (.e 9 (.q 10 (.e 11 .nil))) 9 (.e 1 (.q 10 (.e 11 .nil)))) 9 (.b2 1 (.e 4 (.q 10 (.e 11 .nil))) 4 (.e 1 (.q 10 (.e 11 .nil))))) 1 (.b3 0 (.b2 4 (.e 9 (.q 10 (.e 11 .nil))) 9 (.e 4 (.q 10 (.e 11 .nil)))) 4 (.b2 0 (.e 9 (.q 10 (.e 11 .nil))) 9 (.e 0 (.q 10 (.e 11 .nil)))) 9 (.b2 0 (.e 4 (.q 10 (.e 11 .nil))) 4 (.e 0 (.q 10 (.e 11 .nil))))) 4 (.b3 0 (.b2 1 (.e 9 (.q 10 (.e 11 .nil))) 9 (.e 1 (.q 10 (.e 11 .nil)))) 1 (.b2 0 (.e 9 (.q 10 (.e 11 .nil))) 9 (.e 0 (.q 10 (.e 11 .nil)))) 9 (.b2 0 (.e 1 (.q 10 (.e 11 .nil))) 1 (.e 0 (.q 10 (.e 11 .nil))))) 9 (.b3 0 (.b2 1 (.e 4 (.q 10 (.e 11 .nil))) 4 (.e 1 (.q 10 (.e 11 .nil)))) 1 (.b2 0 (.e 4 (.q 10 (.e 11 .nil))) 4 (.e 0 (.q 10 (.e 11 .nil)))) 4 (.b2 0 (.e 1 (.q 10 (.e 11 .nil))) 1 (.e 0 (.q 10 (.e 11 .nil)))))))))))) (by kernel_rfl) (by kernel_rfl) (S.sel [0, 1] rfl rfl) fun K3 k3 => ?_
 refine xt_does H rfl rfl (fun _ S => does_build bt_95 rfl rfl) ?_;clear H a;intro a H
 refine xt_does H rfl rfl (fun _ S => does_build bt_95 rfl rfl) ?_;clear H a;intro a H
 refine xt_does H rfl rfl (fun _ S => (does_loadBox agg_62 sz_62 rfl S (i := 0) rfl rfl)) ?_;clear H a;intro a H
 refine xt_does H rfl rfl (fun _ S => does_build bt_65 rfl rfl) ?_;clear H a;intro a H
 refine xt_does H rfl rfl (fun _ S => (does_loadBox agg_62 sz_62 rfl S (i := 0) rfl rfl)) ?_;clear H a;intro a H
 refine xt_does H rfl rfl (fun _ S => does_build bt_65 rfl rfl) ?_;clear H a;intro a H
 refine xt_b4 rfl rfl rfl rfl ?_ ?_ ?_ ?_
 ·skip
  refine list_call H rfl rfl Try.func59 rfl rfl (law8_Example _) ?_;clear H a
  rintro _ _ a ⟨A5, c5, B5, d5, rfl, S2⟩ H
  replace S := S.call S2;clear S2
  refine wpList_nil (And.intro (Or.inr (S.sel [2, 3] rfl rfl)) ?_)
  refine xt_b3 rfl rfl rfl ?_ ?_ ?_
  ·skip
   refine list_build' H rfl S sl_23 sz_3 ze_3 rfl rfl rfl rfl rfl rfl rfl rfl rfl ?_;clear H a S;intro A2 _ a hA2 S H
   replace S := S.recell (i := 0) rfl (cell' := icl w8exP) (fun k j hk hj => cells4 k j hk hj)
   refine wpList_nil (And.intro (Or.inr (S.sel [3, 4] rfl rfl)) ?_)
   refine xt_b2 rfl rfl ?_ ?_
   ·skip
    refine list_build' H rfl S sl_26 sz_95 ze_95 rfl rfl rfl rfl rfl rfl rfl rfl rfl ?_;clear H a S;intro A3 _ a hA3 S H
    replace S := S.recell (i := 0) rfl (cell' := prcell exPr) (fun k j hk hj => ex_prs rfl k j hk hj)
    refine wpList_nil (And.intro (Or.inr (S.sel [4, 5] rfl rfl)) ?_)
    refine xt_eff rfl ?_
    refine list_build' H rfl S sl_27 sz_65 ze_65 rfl rfl rfl rfl rfl rfl rfl rfl rfl ?_;clear H a S;intro A4 _ a hA4 S H
    replace S := S.recell (i := 0) rfl (cell' := vcell (exU _ _)) (fun k j hk hj => ex_us rfl k j hk hj)
    refine wpList_nil (And.intro (Or.inr (S.sel [5, 6] rfl rfl)) ?_)
    refine xt_does H rfl rfl (fun _ S => does_build bt_30 rfl rfl) ?_;clear H a;intro a H
    refine xt_eff rfl ?_
    refine list_store H S (i := 7) rfl rfl rfl rfl sz_30 rfl rfl ?_
    clear H a S;intro _ a S H
    refine wpList_nil (And.intro (Or.inl rfl) ?_)
    refine xt_nil ?_
    refine k3 _ _ ?_
    clear k3 K3
    refine wp_ret ?_
    refine retA (fn := Try.f35) rfl H rfl agg_30 (by exact sz_30) (boxAgg S (i := 7) rfl) ?_
    exact ⟨_, _, _, _, _, _, _, _, _, _, _, _, rfl, (S.sel [3, 4, 2, 1, 0, 6] rfl rfl)⟩
   ·skip
    refine list_build' H rfl S sl_27 sz_65 ze_65 rfl rfl rfl rfl rfl rfl rfl rfl rfl ?_;clear H a S;intro A5 _ a hA5 S H
    replace S := S.recell (i := 0) rfl (cell' := vcell (exU _ _)) (fun k j hk hj => ex_us rfl k j hk hj)
    refine wpList_nil (And.intro (Or.inr (S.sel [4, 5] rfl rfl)) ?_)
    refine xt_eff rfl ?_
    refine list_build' H rfl S sl_26 sz_95 ze_95 rfl rfl rfl rfl rfl rfl rfl rfl rfl ?_;clear H a S;intro A6 _ a hA6 S H
    replace S := S.recell (i := 0) rfl (cell' := prcell exPr) (fun k j hk hj => ex_prs rfl k j hk hj)
    refine wpList_nil (And.intro (Or.inr (S.sel [5, 6] rfl rfl)) ?_)
    refine xt_does H rfl rfl (fun _ S => does_build bt_30 rfl rfl) ?_;clear H a;intro a H
    refine xt_eff rfl ?_
    refine list_store H S (i := 7) rfl rfl rfl rfl sz_30 rfl rfl ?_
    clear H a S;intro _ a S H
    refine wpList_nil (And.intro (Or.inl rfl) ?_)
    refine xt_nil ?_
    refine k3 _ _ ?_
    clear k3 K3
    refine wp_ret ?_
    refine retA (fn := Try.f35) rfl H rfl agg_30 (by exact sz_30) (boxAgg S (i := 7) rfl) ?_
    exact ⟨_, _, _, _, _, _, _, _, _, _, _, _, rfl, (S.sel [3, 4, 2, 0, 1, 6] rfl rfl)⟩
  ·skip
   refine list_build' H rfl S sl_26 sz_95 ze_95 rfl rfl rfl rfl rfl rfl rfl rfl rfl ?_;clear H a S;intro A7 _ a hA7 S H
   replace S := S.recell (i := 0) rfl (cell' := prcell exPr) (fun k j hk hj => ex_prs rfl k j hk hj)
   refine wpList_nil (And.intro (Or.inr (S.sel [3, 4] rfl rfl)) ?_)
   refine xt_b2 rfl rfl ?_ ?_
   ·skip
    refine list_build' H rfl S sl_23 sz_3 ze_3 rfl rfl rfl rfl rfl rfl rfl rfl rfl ?_;clear H a S;intro A8 _ a hA8 S H
    replace S := S.recell (i := 0) rfl (cell' := icl w8exP) (fun k j hk hj => cells4 k j hk hj)
    refine wpList_nil (And.intro (Or.inr (S.sel [4, 5] rfl rfl)) ?_)
    refine xt_eff rfl ?_
    refine list_build' H rfl S sl_27 sz_65 ze_65 rfl rfl rfl rfl rfl rfl rfl rfl rfl ?_;clear H a S;intro A9 _ a hA9 S H
    replace S := S.recell (i := 0) rfl (cell' := vcell (exU _ _)) (fun k j hk hj => ex_us rfl k j hk hj)
    refine wpList_nil (And.intro (Or.inr (S.sel [5, 6] rfl rfl)) ?_)
    refine xt_does H rfl rfl (fun _ S => does_build bt_30 rfl rfl) ?_;clear H a;intro a H
    refine xt_eff rfl ?_
    refine list_store H S (i := 7) rfl rfl rfl rfl sz_30 rfl rfl ?_
    clear H a S;intro _ a S H
    refine wpList_nil (And.intro (Or.inl rfl) ?_)
    refine xt_nil ?_
    refine k3 _ _ ?_
    clear k3 K3
    refine wp_ret ?_
    refine retA (fn := Try.f35) rfl H rfl agg_30 (by exact sz_30) (boxAgg S (i := 7) rfl) ?_
    exact ⟨_, _, _, _, _, _, _, _, _, _, _, _, rfl, (S.sel [3, 4, 1, 2, 0, 6] rfl rfl)⟩
   ·skip
    refine list_build' H rfl S sl_27 sz_65 ze_65 rfl rfl rfl rfl rfl rfl rfl rfl rfl ?_;clear H a S;intro A10 _ a hA10 S H
    replace S := S.recell (i := 0) rfl (cell' := vcell (exU _ _)) (fun k j hk hj => ex_us rfl k j hk hj)
    refine wpList_nil (And.intro (Or.inr (S.sel [4, 5] rfl rfl)) ?_)
    refine xt_eff rfl ?_
    refine list_build' H rfl S sl_23 sz_3 ze_3 rfl rfl rfl rfl rfl rfl rfl rfl rfl ?_;clear H a S;intro A11 _ a hA11 S H
    replace S := S.recell (i := 0) rfl (cell' := icl w8exP) (fun k j hk hj => cells4 k j hk hj)
    refine wpList_nil (And.intro (Or.inr (S.sel [5, 6] rfl rfl)) ?_)
    refine xt_does H rfl rfl (fun _ S => does_build bt_30 rfl rfl) ?_;clear H a;intro a H
    refine xt_eff rfl ?_
    refine list_store H S (i := 7) rfl rfl rfl rfl sz_30 rfl rfl ?_
    clear H a S;intro _ a S H
    refine wpList_nil (And.intro (Or.inl rfl) ?_)
    refine xt_nil ?_
    refine k3 _ _ ?_
    clear k3 K3
    refine wp_ret ?_
    refine retA (fn := Try.f35) rfl H rfl agg_30 (by exact sz_30) (boxAgg S (i := 7) rfl) ?_
    exact ⟨_, _, _, _, _, _, _, _, _, _, _, _, rfl, (S.sel [3, 4, 0, 2, 1, 6] rfl rfl)⟩
  ·skip
   refine list_build' H rfl S sl_27 sz_65 ze_65 rfl rfl rfl rfl rfl rfl rfl rfl rfl ?_;clear H a S;intro A12 _ a hA12 S H
   replace S := S.recell (i := 0) rfl (cell' := vcell (exU _ _)) (fun k j hk hj => ex_us rfl k j hk hj)
   refine wpList_nil (And.intro (Or.inr (S.sel [3, 4] rfl rfl)) ?_)
   refine xt_b2 rfl rfl ?_ ?_
   ·skip
    refine list_build' H rfl S sl_23 sz_3 ze_3 rfl rfl rfl rfl rfl rfl rfl rfl rfl ?_;clear H a S;intro A13 _ a hA13 S H
    replace S := S.recell (i := 0) rfl (cell' := icl w8exP) (fun k j hk hj => cells4 k j hk hj)
    refine wpList_nil (And.intro (Or.inr (S.sel [4, 5] rfl rfl)) ?_)
    refine xt_eff rfl ?_
    refine list_build' H rfl S sl_26 sz_95 ze_95 rfl rfl rfl rfl rfl rfl rfl rfl rfl ?_;clear H a S;intro A14 _ a hA14 S H
    replace S := S.recell (i := 0) rfl (cell' := prcell exPr) (fun k j hk hj => ex_prs rfl k j hk hj)
    refine wpList_nil (And.intro (Or.inr (S.sel [5, 6] rfl rfl)) ?_)
    refine xt_does H rfl rfl (fun _ S => does_build bt_30 rfl rfl) ?_;clear H a;intro a H
    refine xt_eff rfl ?_
    refine list_store H S (i := 7) rfl rfl rfl rfl sz_30 rfl rfl ?_
    clear H a S;intro _ a S H
    refine wpList_nil (And.intro (Or.inl rfl) ?_)
    refine xt_nil ?_
    refine k3 _ _ ?_
    clear k3 K3
    refine wp_ret ?_
    refine retA (fn := Try.f35) rfl H rfl agg_30 (by exact sz_30) (boxAgg S (i := 7) rfl) ?_
    exact ⟨_, _, _, _, _, _, _, _, _, _, _, _, rfl, (S.sel [3, 4, 1, 0, 2, 6] rfl rfl)⟩
   ·skip
    refine list_build' H rfl S sl_26 sz_95 ze_95 rfl rfl rfl rfl rfl rfl rfl rfl rfl ?_;clear H a S;intro A15 _ a hA15 S H
    replace S := S.recell (i := 0) rfl (cell' := prcell exPr) (fun k j hk hj => ex_prs rfl k j hk hj)
    refine wpList_nil (And.intro (Or.inr (S.sel [4, 5] rfl rfl)) ?_)
    refine xt_eff rfl ?_
    refine list_build' H rfl S sl_23 sz_3 ze_3 rfl rfl rfl rfl rfl rfl rfl rfl rfl ?_;clear H a S;intro A16 _ a hA16 S H
    replace S := S.recell (i := 0) rfl (cell' := icl w8exP) (fun k j hk hj => cells4 k j hk hj)
    refine wpList_nil (And.intro (Or.inr (S.sel [5, 6] rfl rfl)) ?_)
    refine xt_does H rfl rfl (fun _ S => does_build bt_30 rfl rfl) ?_;clear H a;intro a H
    refine xt_eff rfl ?_
    refine list_store H S (i := 7) rfl rfl rfl rfl sz_30 rfl rfl ?_
    clear H a S;intro _ a S H
    refine wpList_nil (And.intro (Or.inl rfl) ?_)
    refine xt_nil ?_
    refine k3 _ _ ?_
    clear k3 K3
    refine wp_ret ?_
    refine retA (fn := Try.f35) rfl H rfl agg_30 (by exact sz_30) (boxAgg S (i := 7) rfl) ?_
    exact ⟨_, _, _, _, _, _, _, _, _, _, _, _, rfl, (S.sel [3, 4, 0, 1, 2, 6] rfl rfl)⟩
 ·skip
  refine list_build' H rfl S sl_23 sz_3 ze_3 rfl rfl rfl rfl rfl rfl rfl rfl rfl ?_;clear H a S;intro A17 _ a hA17 S H
  replace S := S.recell (i := 0) rfl (cell' := icl w8exP) (fun k j hk hj => cells4 k j hk hj)
  refine wpList_nil (And.intro (Or.inr (S.sel [1, 2] rfl rfl)) ?_)
  refine xt_b3 rfl rfl rfl ?_ ?_ ?_
  ·skip
   refine list_call H rfl rfl Try.func59 rfl rfl (law8_Example _) ?_;clear H a
   rintro _ _ a ⟨A5, c5, B5, d5, rfl, S2⟩ H
   replace S := S.call S2;clear S2
   refine wpList_nil (And.intro (Or.inr (S.sel [3, 4] rfl rfl)) ?_)
   refine xt_b2 rfl rfl ?_ ?_
   ·skip
    refine list_build' H rfl S sl_26 sz_95 ze_95 rfl rfl rfl rfl rfl rfl rfl rfl rfl ?_;clear H a S;intro A18 _ a hA18 S H
    replace S := S.recell (i := 0) rfl (cell' := prcell exPr) (fun k j hk hj => ex_prs rfl k j hk hj)
    refine wpList_nil (And.intro (Or.inr (S.sel [4, 5] rfl rfl)) ?_)
    refine xt_eff rfl ?_
    refine list_build' H rfl S sl_27 sz_65 ze_65 rfl rfl rfl rfl rfl rfl rfl rfl rfl ?_;clear H a S;intro A19 _ a hA19 S H
    replace S := S.recell (i := 0) rfl (cell' := vcell (exU _ _)) (fun k j hk hj => ex_us rfl k j hk hj)
    refine wpList_nil (And.intro (Or.inr (S.sel [5, 6] rfl rfl)) ?_)
    refine xt_does H rfl rfl (fun _ S => does_build bt_30 rfl rfl) ?_;clear H a;intro a H
    refine xt_eff rfl ?_
    refine list_store H S (i := 7) rfl rfl rfl rfl sz_30 rfl rfl ?_
    clear H a S;intro _ a S H
    refine wpList_nil (And.intro (Or.inl rfl) ?_)
    refine xt_nil ?_
    refine k3 _ _ ?_
    clear k3 K3
    refine wp_ret ?_
    refine retA (fn := Try.f35) rfl H rfl agg_30 (by exact sz_30) (boxAgg S (i := 7) rfl) ?_
    exact ⟨_, _, _, _, _, _, _, _, _, _, _, _, rfl, (S.sel [2, 3, 4, 1, 0, 6] rfl rfl)⟩
   ·skip
    refine list_build' H rfl S sl_27 sz_65 ze_65 rfl rfl rfl rfl rfl rfl rfl rfl rfl ?_;clear H a S;intro A20 _ a hA20 S H
    replace S := S.recell (i := 0) rfl (cell' := vcell (exU _ _)) (fun k j hk hj => ex_us rfl k j hk hj)
    refine wpList_nil (And.intro (Or.inr (S.sel [4, 5] rfl rfl)) ?_)
    refine xt_eff rfl ?_
    refine list_build' H rfl S sl_26 sz_95 ze_95 rfl rfl rfl rfl rfl rfl rfl rfl rfl ?_;clear H a S;intro A21 _ a hA21 S H
    replace S := S.recell (i := 0) rfl (cell' := prcell exPr) (fun k j hk hj => ex_prs rfl k j hk hj)
    refine wpList_nil (And.intro (Or.inr (S.sel [5, 6] rfl rfl)) ?_)
    refine xt_does H rfl rfl (fun _ S => does_build bt_30 rfl rfl) ?_;clear H a;intro a H
    refine xt_eff rfl ?_
    refine list_store H S (i := 7) rfl rfl rfl rfl sz_30 rfl rfl ?_
    clear H a S;intro _ a S H
    refine wpList_nil (And.intro (Or.inl rfl) ?_)
    refine xt_nil ?_
    refine k3 _ _ ?_
    clear k3 K3
    refine wp_ret ?_
    refine retA (fn := Try.f35) rfl H rfl agg_30 (by exact sz_30) (boxAgg S (i := 7) rfl) ?_
    exact ⟨_, _, _, _, _, _, _, _, _, _, _, _, rfl, (S.sel [2, 3, 4, 0, 1, 6] rfl rfl)⟩
  ·skip
   refine list_build' H rfl S sl_26 sz_95 ze_95 rfl rfl rfl rfl rfl rfl rfl rfl rfl ?_;clear H a S;intro A22 _ a hA22 S H
   replace S := S.recell (i := 0) rfl (cell' := prcell exPr) (fun k j hk hj => ex_prs rfl k j hk hj)
   refine wpList_nil (And.intro (Or.inr (S.sel [2, 3] rfl rfl)) ?_)
   refine xt_b2 rfl rfl ?_ ?_
   ·skip
    refine list_call H rfl rfl Try.func59 rfl rfl (law8_Example _) ?_;clear H a
    rintro _ _ a ⟨A5, c5, B5, d5, rfl, S2⟩ H
    replace S := S.call S2;clear S2
    refine wpList_nil (And.intro (Or.inr (S.sel [4, 5] rfl rfl)) ?_)
    refine xt_eff rfl ?_
    refine list_build' H rfl S sl_27 sz_65 ze_65 rfl rfl rfl rfl rfl rfl rfl rfl rfl ?_;clear H a S;intro A23 _ a hA23 S H
    replace S := S.recell (i := 0) rfl (cell' := vcell (exU _ _)) (fun k j hk hj => ex_us rfl k j hk hj)
    refine wpList_nil (And.intro (Or.inr (S.sel [5, 6] rfl rfl)) ?_)
    refine xt_does H rfl rfl (fun _ S => does_build bt_30 rfl rfl) ?_;clear H a;intro a H
    refine xt_eff rfl ?_
    refine list_store H S (i := 7) rfl rfl rfl rfl sz_30 rfl rfl ?_
    clear H a S;intro _ a S H
    refine wpList_nil (And.intro (Or.inl rfl) ?_)
    refine xt_nil ?_
    refine k3 _ _ ?_
    clear k3 K3
    refine wp_ret ?_
    refine retA (fn := Try.f35) rfl H rfl agg_30 (by exact sz_30) (boxAgg S (i := 7) rfl) ?_
    exact ⟨_, _, _, _, _, _, _, _, _, _, _, _, rfl, (S.sel [1, 2, 4, 3, 0, 6] rfl rfl)⟩
   ·skip
    refine list_build' H rfl S sl_27 sz_65 ze_65 rfl rfl rfl rfl rfl rfl rfl rfl rfl ?_;clear H a S;intro A24 _ a hA24 S H
    replace S := S.recell (i := 0) rfl (cell' := vcell (exU _ _)) (fun k j hk hj => ex_us rfl k j hk hj)
    refine wpList_nil (And.intro (Or.inr (S.sel [3, 4] rfl rfl)) ?_)
    refine xt_eff rfl ?_
    refine list_call H rfl rfl Try.func59 rfl rfl (law8_Example _) ?_;clear H a
    rintro _ _ a ⟨A5, c5, B5, d5, rfl, S2⟩ H
    replace S := S.call S2;clear S2
    refine wpList_nil (And.intro (Or.inr (S.sel [5, 6] rfl rfl)) ?_)
    refine xt_does H rfl rfl (fun _ S => does_build bt_30 rfl rfl) ?_;clear H a;intro a H
    refine xt_eff rfl ?_
    refine list_store H S (i := 7) rfl rfl rfl rfl sz_30 rfl rfl ?_
    clear H a S;intro _ a S H
    refine wpList_nil (And.intro (Or.inl rfl) ?_)
    refine xt_nil ?_
    refine k3 _ _ ?_
    clear k3 K3
    refine wp_ret ?_
    refine retA (fn := Try.f35) rfl H rfl agg_30 (by exact sz_30) (boxAgg S (i := 7) rfl) ?_
    exact ⟨_, _, _, _, _, _, _, _, _, _, _, _, rfl, (S.sel [0, 1, 4, 3, 2, 6] rfl rfl)⟩
  ·skip
   refine list_build' H rfl S sl_27 sz_65 ze_65 rfl rfl rfl rfl rfl rfl rfl rfl rfl ?_;clear H a S;intro A25 _ a hA25 S H
   replace S := S.recell (i := 0) rfl (cell' := vcell (exU _ _)) (fun k j hk hj => ex_us rfl k j hk hj)
   refine wpList_nil (And.intro (Or.inr (S.sel [2, 3] rfl rfl)) ?_)
   refine xt_b2 rfl rfl ?_ ?_
   ·skip
    refine list_call H rfl rfl Try.func59 rfl rfl (law8_Example _) ?_;clear H a
    rintro _ _ a ⟨A5, c5, B5, d5, rfl, S2⟩ H
    replace S := S.call S2;clear S2
    refine wpList_nil (And.intro (Or.inr (S.sel [4, 5] rfl rfl)) ?_)
    refine xt_eff rfl ?_
    refine list_build' H rfl S sl_26 sz_95 ze_95 rfl rfl rfl rfl rfl rfl rfl rfl rfl ?_;clear H a S;intro A26 _ a hA26 S H
    replace S := S.recell (i := 0) rfl (cell' := prcell exPr) (fun k j hk hj => ex_prs rfl k j hk hj)
    refine wpList_nil (And.intro (Or.inr (S.sel [5, 6] rfl rfl)) ?_)
    refine xt_does H rfl rfl (fun _ S => does_build bt_30 rfl rfl) ?_;clear H a;intro a H
    refine xt_eff rfl ?_
    refine list_store H S (i := 7) rfl rfl rfl rfl sz_30 rfl rfl ?_
    clear H a S;intro _ a S H
    refine wpList_nil (And.intro (Or.inl rfl) ?_)
    refine xt_nil ?_
    refine k3 _ _ ?_
    clear k3 K3
    refine wp_ret ?_
    refine retA (fn := Try.f35) rfl H rfl agg_30 (by exact sz_30) (boxAgg S (i := 7) rfl) ?_
    exact ⟨_, _, _, _, _, _, _, _, _, _, _, _, rfl, (S.sel [1, 2, 4, 0, 3, 6] rfl rfl)⟩
   ·skip
    refine list_build' H rfl S sl_26 sz_95 ze_95 rfl rfl rfl rfl rfl rfl rfl rfl rfl ?_;clear H a S;intro A27 _ a hA27 S H
    replace S := S.recell (i := 0) rfl (cell' := prcell exPr) (fun k j hk hj => ex_prs rfl k j hk hj)
    refine wpList_nil (And.intro (Or.inr (S.sel [3, 4] rfl rfl)) ?_)
    refine xt_eff rfl ?_
    refine list_call H rfl rfl Try.func59 rfl rfl (law8_Example _) ?_;clear H a
    rintro _ _ a ⟨A5, c5, B5, d5, rfl, S2⟩ H
    replace S := S.call S2;clear S2
    refine wpList_nil (And.intro (Or.inr (S.sel [5, 6] rfl rfl)) ?_)
    refine xt_does H rfl rfl (fun _ S => does_build bt_30 rfl rfl) ?_;clear H a;intro a H
    refine xt_eff rfl ?_
    refine list_store H S (i := 7) rfl rfl rfl rfl sz_30 rfl rfl ?_
    clear H a S;intro _ a S H
    refine wpList_nil (And.intro (Or.inl rfl) ?_)
    refine xt_nil ?_
    refine k3 _ _ ?_
    clear k3 K3
    refine wp_ret ?_
    refine retA (fn := Try.f35) rfl H rfl agg_30 (by exact sz_30) (boxAgg S (i := 7) rfl) ?_
    exact ⟨_, _, _, _, _, _, _, _, _, _, _, _, rfl, (S.sel [0, 1, 4, 2, 3, 6] rfl rfl)⟩
 ·skip
  refine list_build' H rfl S sl_26 sz_95 ze_95 rfl rfl rfl rfl rfl rfl rfl rfl rfl ?_;clear H a S;intro A28 _ a hA28 S H
  replace S := S.recell (i := 0) rfl (cell' := prcell exPr) (fun k j hk hj => ex_prs rfl k j hk hj)
  refine wpList_nil (And.intro (Or.inr (S.sel [1, 2] rfl rfl)) ?_)
  refine xt_b3 rfl rfl rfl ?_ ?_ ?_
  ·skip
   refine list_call H rfl rfl Try.func59 rfl rfl (law8_Example _) ?_;clear H a
   rintro _ _ a ⟨A5, c5, B5, d5, rfl, S2⟩ H
   replace S := S.call S2;clear S2
   refine wpList_nil (And.intro (Or.inr (S.sel [3, 4] rfl rfl)) ?_)
   refine xt_b2 rfl rfl ?_ ?_
   ·skip
    refine list_build' H rfl S sl_23 sz_3 ze_3 rfl rfl rfl rfl rfl rfl rfl rfl rfl ?_;clear H a S;intro A29 _ a hA29 S H
    replace S := S.recell (i := 0) rfl (cell' := icl w8exP) (fun k j hk hj => cells4 k j hk hj)
    refine wpList_nil (And.intro (Or.inr (S.sel [4, 5] rfl rfl)) ?_)
    refine xt_eff rfl ?_
    refine list_build' H rfl S sl_27 sz_65 ze_65 rfl rfl rfl rfl rfl rfl rfl rfl rfl ?_;clear H a S;intro A30 _ a hA30 S H
    replace S := S.recell (i := 0) rfl (cell' := vcell (exU _ _)) (fun k j hk hj => ex_us rfl k j hk hj)
    refine wpList_nil (And.intro (Or.inr (S.sel [5, 6] rfl rfl)) ?_)
    refine xt_does H rfl rfl (fun _ S => does_build bt_30 rfl rfl) ?_;clear H a;intro a H
    refine xt_eff rfl ?_
    refine list_store H S (i := 7) rfl rfl rfl rfl sz_30 rfl rfl ?_
    clear H a S;intro _ a S H
    refine wpList_nil (And.intro (Or.inl rfl) ?_)
    refine xt_nil ?_
    refine k3 _ _ ?_
    clear k3 K3
    refine wp_ret ?_
    refine retA (fn := Try.f35) rfl H rfl agg_30 (by exact sz_30) (boxAgg S (i := 7) rfl) ?_
    exact ⟨_, _, _, _, _, _, _, _, _, _, _, _, rfl, (S.sel [2, 3, 1, 4, 0, 6] rfl rfl)⟩
   ·skip
    refine list_build' H rfl S sl_27 sz_65 ze_65 rfl rfl rfl rfl rfl rfl rfl rfl rfl ?_;clear H a S;intro A31 _ a hA31 S H
    replace S := S.recell (i := 0) rfl (cell' := vcell (exU _ _)) (fun k j hk hj => ex_us rfl k j hk hj)
    refine wpList_nil (And.intro (Or.inr (S.sel [4, 5] rfl rfl)) ?_)
    refine xt_eff rfl ?_
    refine list_build' H rfl S sl_23 sz_3 ze_3 rfl rfl rfl rfl rfl rfl rfl rfl rfl ?_;clear H a S;intro A32 _ a hA32 S H
    replace S := S.recell (i := 0) rfl (cell' := icl w8exP) (fun k j hk hj => cells4 k j hk hj)
    refine wpList_nil (And.intro (Or.inr (S.sel [5, 6] rfl rfl)) ?_)
    refine xt_does H rfl rfl (fun _ S => does_build bt_30 rfl rfl) ?_;clear H a;intro a H
    refine xt_eff rfl ?_
    refine list_store H S (i := 7) rfl rfl rfl rfl sz_30 rfl rfl ?_
    clear H a S;intro _ a S H
    refine wpList_nil (And.intro (Or.inl rfl) ?_)
    refine xt_nil ?_
    refine k3 _ _ ?_
    clear k3 K3
    refine wp_ret ?_
    refine retA (fn := Try.f35) rfl H rfl agg_30 (by exact sz_30) (boxAgg S (i := 7) rfl) ?_
    exact ⟨_, _, _, _, _, _, _, _, _, _, _, _, rfl, (S.sel [2, 3, 0, 4, 1, 6] rfl rfl)⟩
  ·skip
   refine list_build' H rfl S sl_23 sz_3 ze_3 rfl rfl rfl rfl rfl rfl rfl rfl rfl ?_;clear H a S;intro A33 _ a hA33 S H
   replace S := S.recell (i := 0) rfl (cell' := icl w8exP) (fun k j hk hj => cells4 k j hk hj)
   refine wpList_nil (And.intro (Or.inr (S.sel [2, 3] rfl rfl)) ?_)
   refine xt_b2 rfl rfl ?_ ?_
   ·skip
    refine list_call H rfl rfl Try.func59 rfl rfl (law8_Example _) ?_;clear H a
    rintro _ _ a ⟨A5, c5, B5, d5, rfl, S2⟩ H
    replace S := S.call S2;clear S2
    refine wpList_nil (And.intro (Or.inr (S.sel [4, 5] rfl rfl)) ?_)
    refine xt_eff rfl ?_
    refine list_build' H rfl S sl_27 sz_65 ze_65 rfl rfl rfl rfl rfl rfl rfl rfl rfl ?_;clear H a S;intro A34 _ a hA34 S H
    replace S := S.recell (i := 0) rfl (cell' := vcell (exU _ _)) (fun k j hk hj => ex_us rfl k j hk hj)
    refine wpList_nil (And.intro (Or.inr (S.sel [5, 6] rfl rfl)) ?_)
    refine xt_does H rfl rfl (fun _ S => does_build bt_30 rfl rfl) ?_;clear H a;intro a H
    refine xt_eff rfl ?_
    refine list_store H S (i := 7) rfl rfl rfl rfl sz_30 rfl rfl ?_
    clear H a S;intro _ a S H
    refine wpList_nil (And.intro (Or.inl rfl) ?_)
    refine xt_nil ?_
    refine k3 _ _ ?_
    clear k3 K3
    refine wp_ret ?_
    refine retA (fn := Try.f35) rfl H rfl agg_30 (by exact sz_30) (boxAgg S (i := 7) rfl) ?_
    exact ⟨_, _, _, _, _, _, _, _, _, _, _, _, rfl, (S.sel [1, 2, 3, 4, 0, 6] rfl rfl)⟩
   ·skip
    refine list_build' H rfl S sl_27 sz_65 ze_65 rfl rfl rfl rfl rfl rfl rfl rfl rfl ?_;clear H a S;intro A35 _ a hA35 S H
    replace S := S.recell (i := 0) rfl (cell' := vcell (exU _ _)) (fun k j hk hj => ex_us rfl k j hk hj)
    refine wpList_nil (And.intro (Or.inr (S.sel [3, 4] rfl rfl)) ?_)
    refine xt_eff rfl ?_
    refine list_call H rfl rfl Try.func59 rfl rfl (law8_Example _) ?_;clear H a
    rintro _ _ a ⟨A5, c5, B5, d5, rfl, S2⟩ H
    replace S := S.call S2;clear S2
    refine wpList_nil (And.intro (Or.inr (S.sel [5, 6] rfl rfl)) ?_)
    refine xt_does H rfl rfl (fun _ S => does_build bt_30 rfl rfl) ?_;clear H a;intro a H
    refine xt_eff rfl ?_
    refine list_store H S (i := 7) rfl rfl rfl rfl sz_30 rfl rfl ?_
    clear H a S;intro _ a S H
    refine wpList_nil (And.intro (Or.inl rfl) ?_)
    refine xt_nil ?_
    refine k3 _ _ ?_
    clear k3 K3
    refine wp_ret ?_
    refine retA (fn := Try.f35) rfl H rfl agg_30 (by exact sz_30) (boxAgg S (i := 7) rfl) ?_
    exact ⟨_, _, _, _, _, _, _, _, _, _, _, _, rfl, (S.sel [0, 1, 3, 4, 2, 6] rfl rfl)⟩
  ·skip
   refine list_build' H rfl S sl_27 sz_65 ze_65 rfl rfl rfl rfl rfl rfl rfl rfl rfl ?_;clear H a S;intro A36 _ a hA36 S H
   replace S := S.recell (i := 0) rfl (cell' := vcell (exU _ _)) (fun k j hk hj => ex_us rfl k j hk hj)
   refine wpList_nil (And.intro (Or.inr (S.sel [2, 3] rfl rfl)) ?_)
   refine xt_b2 rfl rfl ?_ ?_
   ·skip
    refine list_call H rfl rfl Try.func59 rfl rfl (law8_Example _) ?_;clear H a
    rintro _ _ a ⟨A5, c5, B5, d5, rfl, S2⟩ H
    replace S := S.call S2;clear S2
    refine wpList_nil (And.intro (Or.inr (S.sel [4, 5] rfl rfl)) ?_)
    refine xt_eff rfl ?_
    refine list_build' H rfl S sl_23 sz_3 ze_3 rfl rfl rfl rfl rfl rfl rfl rfl rfl ?_;clear H a S;intro A37 _ a hA37 S H
    replace S := S.recell (i := 0) rfl (cell' := icl w8exP) (fun k j hk hj => cells4 k j hk hj)
    refine wpList_nil (And.intro (Or.inr (S.sel [5, 6] rfl rfl)) ?_)
    refine xt_does H rfl rfl (fun _ S => does_build bt_30 rfl rfl) ?_;clear H a;intro a H
    refine xt_eff rfl ?_
    refine list_store H S (i := 7) rfl rfl rfl rfl sz_30 rfl rfl ?_
    clear H a S;intro _ a S H
    refine wpList_nil (And.intro (Or.inl rfl) ?_)
    refine xt_nil ?_
    refine k3 _ _ ?_
    clear k3 K3
    refine wp_ret ?_
    refine retA (fn := Try.f35) rfl H rfl agg_30 (by exact sz_30) (boxAgg S (i := 7) rfl) ?_
    exact ⟨_, _, _, _, _, _, _, _, _, _, _, _, rfl, (S.sel [1, 2, 0, 4, 3, 6] rfl rfl)⟩
   ·skip
    refine list_build' H rfl S sl_23 sz_3 ze_3 rfl rfl rfl rfl rfl rfl rfl rfl rfl ?_;clear H a S;intro A38 _ a hA38 S H
    replace S := S.recell (i := 0) rfl (cell' := icl w8exP) (fun k j hk hj => cells4 k j hk hj)
    refine wpList_nil (And.intro (Or.inr (S.sel [3, 4] rfl rfl)) ?_)
    refine xt_eff rfl ?_
    refine list_call H rfl rfl Try.func59 rfl rfl (law8_Example _) ?_;clear H a
    rintro _ _ a ⟨A5, c5, B5, d5, rfl, S2⟩ H
    replace S := S.call S2;clear S2
    refine wpList_nil (And.intro (Or.inr (S.sel [5, 6] rfl rfl)) ?_)
    refine xt_does H rfl rfl (fun _ S => does_build bt_30 rfl rfl) ?_;clear H a;intro a H
    refine xt_eff rfl ?_
    refine list_store H S (i := 7) rfl rfl rfl rfl sz_30 rfl rfl ?_
    clear H a S;intro _ a S H
    refine wpList_nil (And.intro (Or.inl rfl) ?_)
    refine xt_nil ?_
    refine k3 _ _ ?_
    clear k3 K3
    refine wp_ret ?_
    refine retA (fn := Try.f35) rfl H rfl agg_30 (by exact sz_30) (boxAgg S (i := 7) rfl) ?_
    exact ⟨_, _, _, _, _, _, _, _, _, _, _, _, rfl, (S.sel [0, 1, 2, 4, 3, 6] rfl rfl)⟩
 ·skip
  refine list_build' H rfl S sl_27 sz_65 ze_65 rfl rfl rfl rfl rfl rfl rfl rfl rfl ?_;clear H a S;intro A39 _ a hA39 S H
  replace S := S.recell (i := 0) rfl (cell' := vcell (exU _ _)) (fun k j hk hj => ex_us rfl k j hk hj)
  refine wpList_nil (And.intro (Or.inr (S.sel [1, 2] rfl rfl)) ?_)
  refine xt_b3 rfl rfl rfl ?_ ?_ ?_
  ·skip
   refine list_call H rfl rfl Try.func59 rfl rfl (law8_Example _) ?_;clear H a
   rintro _ _ a ⟨A5, c5, B5, d5, rfl, S2⟩ H
   replace S := S.call S2;clear S2
   refine wpList_nil (And.intro (Or.inr (S.sel [3, 4] rfl rfl)) ?_)
   refine xt_b2 rfl rfl ?_ ?_
   ·skip
    refine list_build' H rfl S sl_23 sz_3 ze_3 rfl rfl rfl rfl rfl rfl rfl rfl rfl ?_;clear H a S;intro A40 _ a hA40 S H
    replace S := S.recell (i := 0) rfl (cell' := icl w8exP) (fun k j hk hj => cells4 k j hk hj)
    refine wpList_nil (And.intro (Or.inr (S.sel [4, 5] rfl rfl)) ?_)
    refine xt_eff rfl ?_
    refine list_build' H rfl S sl_26 sz_95 ze_95 rfl rfl rfl rfl rfl rfl rfl rfl rfl ?_;clear H a S;intro A41 _ a hA41 S H
    replace S := S.recell (i := 0) rfl (cell' := prcell exPr) (fun k j hk hj => ex_prs rfl k j hk hj)
    refine wpList_nil (And.intro (Or.inr (S.sel [5, 6] rfl rfl)) ?_)
    refine xt_does H rfl rfl (fun _ S => does_build bt_30 rfl rfl) ?_;clear H a;intro a H
    refine xt_eff rfl ?_
    refine list_store H S (i := 7) rfl rfl rfl rfl sz_30 rfl rfl ?_
    clear H a S;intro _ a S H
    refine wpList_nil (And.intro (Or.inl rfl) ?_)
    refine xt_nil ?_
    refine k3 _ _ ?_
    clear k3 K3
    refine wp_ret ?_
    refine retA (fn := Try.f35) rfl H rfl agg_30 (by exact sz_30) (boxAgg S (i := 7) rfl) ?_
    exact ⟨_, _, _, _, _, _, _, _, _, _, _, _, rfl, (S.sel [2, 3, 1, 0, 4, 6] rfl rfl)⟩
   ·skip
    refine list_build' H rfl S sl_26 sz_95 ze_95 rfl rfl rfl rfl rfl rfl rfl rfl rfl ?_;clear H a S;intro A42 _ a hA42 S H
    replace S := S.recell (i := 0) rfl (cell' := prcell exPr) (fun k j hk hj => ex_prs rfl k j hk hj)
    refine wpList_nil (And.intro (Or.inr (S.sel [4, 5] rfl rfl)) ?_)
    refine xt_eff rfl ?_
    refine list_build' H rfl S sl_23 sz_3 ze_3 rfl rfl rfl rfl rfl rfl rfl rfl rfl ?_;clear H a S;intro A43 _ a hA43 S H
    replace S := S.recell (i := 0) rfl (cell' := icl w8exP) (fun k j hk hj => cells4 k j hk hj)
    refine wpList_nil (And.intro (Or.inr (S.sel [5, 6] rfl rfl)) ?_)
    refine xt_does H rfl rfl (fun _ S => does_build bt_30 rfl rfl) ?_;clear H a;intro a H
    refine xt_eff rfl ?_
    refine list_store H S (i := 7) rfl rfl rfl rfl sz_30 rfl rfl ?_
    clear H a S;intro _ a S H
    refine wpList_nil (And.intro (Or.inl rfl) ?_)
    refine xt_nil ?_
    refine k3 _ _ ?_
    clear k3 K3
    refine wp_ret ?_
    refine retA (fn := Try.f35) rfl H rfl agg_30 (by exact sz_30) (boxAgg S (i := 7) rfl) ?_
    exact ⟨_, _, _, _, _, _, _, _, _, _, _, _, rfl, (S.sel [2, 3, 0, 1, 4, 6] rfl rfl)⟩
  ·skip
   refine list_build' H rfl S sl_23 sz_3 ze_3 rfl rfl rfl rfl rfl rfl rfl rfl rfl ?_;clear H a S;intro A44 _ a hA44 S H
   replace S := S.recell (i := 0) rfl (cell' := icl w8exP) (fun k j hk hj => cells4 k j hk hj)
   refine wpList_nil (And.intro (Or.inr (S.sel [2, 3] rfl rfl)) ?_)
   refine xt_b2 rfl rfl ?_ ?_
   ·skip
    refine list_call H rfl rfl Try.func59 rfl rfl (law8_Example _) ?_;clear H a
    rintro _ _ a ⟨A5, c5, B5, d5, rfl, S2⟩ H
    replace S := S.call S2;clear S2
    refine wpList_nil (And.intro (Or.inr (S.sel [4, 5] rfl rfl)) ?_)
    refine xt_eff rfl ?_
    refine list_build' H rfl S sl_26 sz_95 ze_95 rfl rfl rfl rfl rfl rfl rfl rfl rfl ?_;clear H a S;intro A45 _ a hA45 S H
    replace S := S.recell (i := 0) rfl (cell' := prcell exPr) (fun k j hk hj => ex_prs rfl k j hk hj)
    refine wpList_nil (And.intro (Or.inr (S.sel [5, 6] rfl rfl)) ?_)
    refine xt_does H rfl rfl (fun _ S => does_build bt_30 rfl rfl) ?_;clear H a;intro a H
    refine xt_eff rfl ?_
    refine list_store H S (i := 7) rfl rfl rfl rfl sz_30 rfl rfl ?_
    clear H a S;intro _ a S H
    refine wpList_nil (And.intro (Or.inl rfl) ?_)
    refine xt_nil ?_
    refine k3 _ _ ?_
    clear k3 K3
    refine wp_ret ?_
    refine retA (fn := Try.f35) rfl H rfl agg_30 (by exact sz_30) (boxAgg S (i := 7) rfl) ?_
    exact ⟨_, _, _, _, _, _, _, _, _, _, _, _, rfl, (S.sel [1, 2, 3, 0, 4, 6] rfl rfl)⟩
   ·skip
    refine list_build' H rfl S sl_26 sz_95 ze_95 rfl rfl rfl rfl rfl rfl rfl rfl rfl ?_;clear H a S;intro A46 _ a hA46 S H
    replace S := S.recell (i := 0) rfl (cell' := prcell exPr) (fun k j hk hj => ex_prs rfl k j hk hj)
    refine wpList_nil (And.intro (Or.inr (S.sel [3, 4] rfl rfl)) ?_)
    refine xt_eff rfl ?_
    refine list_call H rfl rfl Try.func59 rfl rfl (law8_Example _) ?_;clear H a
    rintro _ _ a ⟨A5, c5, B5, d5, rfl, S2⟩ H
    replace S := S.call S2;clear S2
    refine wpList_nil (And.intro (Or.inr (S.sel [5, 6] rfl rfl)) ?_)
    refine xt_does H rfl rfl (fun _ S => does_build bt_30 rfl rfl) ?_;clear H a;intro a H
    refine xt_eff rfl ?_
    refine list_store H S (i := 7) rfl rfl rfl rfl sz_30 rfl rfl ?_
    clear H a S;intro _ a S H
    refine wpList_nil (And.intro (Or.inl rfl) ?_)
    refine xt_nil ?_
    refine k3 _ _ ?_
    clear k3 K3
    refine wp_ret ?_
    refine retA (fn := Try.f35) rfl H rfl agg_30 (by exact sz_30) (boxAgg S (i := 7) rfl) ?_
    exact ⟨_, _, _, _, _, _, _, _, _, _, _, _, rfl, (S.sel [0, 1, 3, 2, 4, 6] rfl rfl)⟩
  ·skip
   refine list_build' H rfl S sl_26 sz_95 ze_95 rfl rfl rfl rfl rfl rfl rfl rfl rfl ?_;clear H a S;intro A47 _ a hA47 S H
   replace S := S.recell (i := 0) rfl (cell' := prcell exPr) (fun k j hk hj => ex_prs rfl k j hk hj)
   refine wpList_nil (And.intro (Or.inr (S.sel [2, 3] rfl rfl)) ?_)
   refine xt_b2 rfl rfl ?_ ?_
   ·skip
    refine list_call H rfl rfl Try.func59 rfl rfl (law8_Example _) ?_;clear H a
    rintro _ _ a ⟨A5, c5, B5, d5, rfl, S2⟩ H
    replace S := S.call S2;clear S2
    refine wpList_nil (And.intro (Or.inr (S.sel [4, 5] rfl rfl)) ?_)
    refine xt_eff rfl ?_
    refine list_build' H rfl S sl_23 sz_3 ze_3 rfl rfl rfl rfl rfl rfl rfl rfl rfl ?_;clear H a S;intro A48 _ a hA48 S H
    replace S := S.recell (i := 0) rfl (cell' := icl w8exP) (fun k j hk hj => cells4 k j hk hj)
    refine wpList_nil (And.intro (Or.inr (S.sel [5, 6] rfl rfl)) ?_)
    refine xt_does H rfl rfl (fun _ S => does_build bt_30 rfl rfl) ?_;clear H a;intro a H
    refine xt_eff rfl ?_
    refine list_store H S (i := 7) rfl rfl rfl rfl sz_30 rfl rfl ?_
    clear H a S;intro _ a S H
    refine wpList_nil (And.intro (Or.inl rfl) ?_)
    refine xt_nil ?_
    refine k3 _ _ ?_
    clear k3 K3
    refine wp_ret ?_
    refine retA (fn := Try.f35) rfl H rfl agg_30 (by exact sz_30) (boxAgg S (i := 7) rfl) ?_
    exact ⟨_, _, _, _, _, _, _, _, _, _, _, _, rfl, (S.sel [1, 2, 0, 3, 4, 6] rfl rfl)⟩
   ·skip
    refine list_build' H rfl S sl_23 sz_3 ze_3 rfl rfl rfl rfl rfl rfl rfl rfl rfl ?_;clear H a S;intro A49 _ a hA49 S H
    replace S := S.recell (i := 0) rfl (cell' := icl w8exP) (fun k j hk hj => cells4 k j hk hj)
    refine wpList_nil (And.intro (Or.inr (S.sel [3, 4] rfl rfl)) ?_)
    refine xt_eff rfl ?_
    refine list_call H rfl rfl Try.func59 rfl rfl (law8_Example _) ?_;clear H a
    rintro _ _ a ⟨A5, c5, B5, d5, rfl, S2⟩ H
    replace S := S.call S2;clear S2
    refine wpList_nil (And.intro (Or.inr (S.sel [5, 6] rfl rfl)) ?_)
    refine xt_does H rfl rfl (fun _ S => does_build bt_30 rfl rfl) ?_;clear H a;intro a H
    refine xt_eff rfl ?_
    refine list_store H S (i := 7) rfl rfl rfl rfl sz_30 rfl rfl ?_
    clear H a S;intro _ a S H
    refine wpList_nil (And.intro (Or.inl rfl) ?_)
    refine xt_nil ?_
    refine k3 _ _ ?_
    clear k3 K3
    refine wp_ret ?_
    refine retA (fn := Try.f35) rfl H rfl agg_30 (by exact sz_30) (boxAgg S (i := 7) rfl) ?_
    exact ⟨_, _, _, _, _, _, _, _, _, _, _, _, rfl, (S.sel [0, 1, 2, 3, 4, 6] rfl rfl)⟩

theorem law12_same (x y : List Int) (AA BA : Option Addr) (ac bc : Nat) (w : World) (ha : InS w noF 1 AA x.length (icl x)) (hb : InS w noF 1 BA y.length (icl y)) (han : x.length ≤ 9223372036854775807) (hbn : y.length ≤ 9223372036854775807) :
    Calls Try.prog 25 [.slice AA x.length ac, .slice BA y.length bc].toArray w (Ret (fun u w' => u = .bool (sameI x y) ∧ St w noF [] w')) := by
 refine enter Try.func25 rfl Try.ntmps25 rfl (fun a H => ?_)
 have S := St.start w
 refine sS H fun K1 k1=>sr 1 rfl <| sE ?_;clear H a;intro a H
 refine k1 _ ?_;clear k1 K1
 refine wp_seq_k fun K2 k2 => ?_
 refine sS H fun K3 k3=>sr 1 rfl <| sL sl_23 rfl <| sr 1 rfl <| sL sl_23 rfl <| sr 1 rfl <| sE ?_;clear H a;intro a H
 refine k3 _ ?_;clear k3 K3
 refine condN H rfl (fun hc1 => ?_) (fun hc1 => ?_)
 ·skip
  refine sS H fun K4 k4=>sr 1 rfl <| sE ?_;clear H a;intro a H
  refine k4 _ ?_;clear k4 K4
  refine wp_ret ?_
  refine ret1 (fn := Try.f25) rfl H rfl ?_
  exact ⟨by rw [same_len (by omega)], (S.sel [] rfl rfl)⟩
 refine wp_skip ?_
 refine k2 _ _ ?_
 refine wp_seq_k fun K5 k5 => ?_
 refine sS H fun K6 k6=>sr 1 rfl <| sE ?_;clear H a;intro a H
 refine k6 _ ?_;clear k6 K6
 refine wp_block ?_
 refine loop_st (X := Nat) (R0 := _) [0, 1] H rfl (fun k => [(5, .int .i64 (k : Int))]) (fun k => []) (fun g k => k ≤ x.length ∧ g + k = x.length ∧ ∀ q, q < k → x.getD q 0 = y.getD q 0) (x.length) 0 ?_ (S.sel [] rfl rfl) (H.keep [5, 0, 1] rfl) ?_
 · exact ⟨by omega, by omega, fun q hq => absurd hq (Nat.not_lt_zero q)⟩
 clear H S a
 intro g1 x1 a w1 hp S H K7 k7
 obtain ⟨k, rfl⟩ : ∃ y, y = x1 := ⟨_, rfl⟩
 refine wp_seq_k fun K8 k8 => ?_
 refine sS H fun K9 k9=>sr 2 rfl <| sL sl_23 rfl <| sr 1 rfl <| sE ?_;clear H a;intro a H
 refine k9 _ ?_;clear k9 K9
 refine condL H rfl (fun hc2 => ?_) (fun hc2 => ?_)
 ·skip
  refine wp_skip ?_
  refine k8 _ _ ?_
  refine wp_seq_k fun K10 k10 => ?_
  refine wp_block ?_
  replace H := H.keep [0, 1, 5] rfl
  replace S := S.drew
  refine sD H fun K11 k11=>sr 2 rfl <| si sl_23 sz_3 rfl rfl (ha.adr (by omega)) (by omega) <| slm one_3 rfl (ha.rd S (by omega) (by omega)) <| sr 2 rfl <| si sl_23 sz_3 rfl rfl (hb.adr (by omega)) (by omega) <| slm one_3 rfl (hb.rd S (by omega) (by omega)) <| sr 1 rfl <| sE ?_;clear H a;intro a H
  refine k11 _ ?_;clear k11 K11
  refine condN H rfl (fun hc3 => ?_) (fun hc3 => ?_)
  ·skip
   replace H := H.keep [] rfl
   refine sS H fun K12 k12=>sr 1 rfl <| sE ?_;clear H a;intro a H
   refine k12 _ ?_;clear k12 K12
   refine wp_ret ?_
   refine ret1 (fn := Try.f25) rfl H rfl ?_
   exact ⟨by rw [same_at (k := k) (by omega)], (S.sel [] rfl rfl)⟩
  refine wp_skip ?_
  refine k10 _ _ ?_
  refine sO H <| sr 1 rfl <| sd (does_add rfl rfl (by unfold i64ok; omega)) <| sr 1 rfl <| sE ?_;clear H a;intro a H
  exact k7 (g1 - 1) (k + 1) a _ (by omega) (⟨by omega, by omega, eq_next hp.2.2 (by omega)⟩) (S.sel [] rfl rfl) (H.keep [5, 0, 1] rfl)
 refine wp_exit ?_
 refine k5 _ _ ?_
 refine sS H fun K14 k14=>sr 1 rfl <| sE ?_;clear H a;intro a H
 refine k14 _ ?_;clear k14 K14
 refine wp_ret ?_
 refine ret1 (fn := Try.f25) rfl H rfl ?_
 exact ⟨by rw [same_all (by omega) (fun q hq => hp.2.2 q (by omega))], (S.sel [] rfl rfl)⟩

theorem law12_works (w : World) :
    Calls Try.prog 11 [].toArray w (Ret (fun u w' => u = .bool true ∧ St w noF [] w')) := by
 refine enter Try.func11 rfl Try.ntmps11 rfl (fun a H => ?_)
 have S := St.start w
 refine sS H fun K1 k1=>sr 1 rfl <| sE ?_;clear H a;intro a H
 refine k1 _ ?_;clear k1 K1
 refine seq_list fun K2 k2 => ?_
 refine list_call H rfl rfl Try.func35 rfl rfl (law12_Example _) ?_;clear H a
 rintro _ _ a ⟨PA, pc, XA, xc, BA, bc, QA, qc, VA, vc, RA, rc, rfl, S2⟩ H
 replace S := S.call S2;clear S2
 refine list_alloc H rfl S ze_30 ?_;clear H a S;intro b1 _ a hb1 hbw1 S H
 refine list_store H S (i := 0) rfl rfl rfl rfl sz_30 rfl rfl ?_
 clear H a S;intro _ a S H
 refine k2 _ _ ?_;clear k2 K2
 replace H := H.keep [1] rfl
 refine seq_list fun K3 k3 => ?_
 refine ls 2 H <| sd ((does_loadBox agg_30 sz_30 rfl S (i := 0) rfl rfl)) <| sd (does_build bt_48 rfl rfl) <| sE ?_;clear H a;intro a H
 refine list_build' H rfl S sl_31 sz_48 ze_48 rfl rfl rfl rfl rfl rfl rfl rfl rfl ?_;clear H a S;intro A1 _ a hA1 S H
 have hcl9 := tm_Out_ex (PA := PA) (pc := pc) (XA := XA) (xc := xc) (BA := BA) (bc := bc) (QA := QA) (qc := qc) (VA := VA) (vc := vc) (RA := RA) (rc := rc) (tc := 1) (exY_in (ownM.inS S (i := 2) rfl) (ownM.inS S (i := 3) rfl) (ownM.inS S (i := 4) rfl) (ownM.inS S (i := 5) rfl) (ownM.inS S (i := 6) rfl) (ownM.inS S (i := 7) rfl)) ((ownM.inS S (i := 0) rfl).congr (fun k j hk hj => ex_tk k j hk hj))
 refine list_call H rfl rfl Try.func13 rfl rfl hcl9 ?_;clear H a hcl9
 rintro _ _ a ⟨A6, c6, rfl, S2⟩ H
 replace S := S.call S2;clear S2
 refine ls 5 H <| sr 5 rfl <| sE ?_;clear H a;intro a H
 refine k3 _ _ ?_;clear k3 K3
 replace H := H.keep [1, 2, 3] rfl
 refine seq_list fun K4 k4 => ?_
 refine ls 1 H <| sd ((does_loadBox agg_30 sz_30 rfl S (i := 2) rfl rfl)) <| sE ?_;clear H a;intro a H
 have hcl9 := tm_Judge_ex (PA := PA) (pc := pc) (XA := XA) (xc := xc) (BA := BA) (bc := bc) (QA := QA) (qc := qc) (VA := VA) (vc := vc) (RA := RA) (rc := rc) (exY_in (ownM.inS S (i := 3) rfl) (ownM.inS S (i := 4) rfl) (ownM.inS S (i := 5) rfl) (ownM.inS S (i := 6) rfl) (ownM.inS S (i := 7) rfl) (ownM.inS S (i := 8) rfl))
 refine list_call H rfl rfl Try.func12 rfl rfl hcl9 ?_;clear H a hcl9
 rintro _ _ a ⟨rfl, S2⟩ H
 replace S := S.call S2;clear S2
 refine ls 7 H <| sr 7 rfl <| sE ?_;clear H a;intro a H
 refine k4 _ _ ?_;clear k4 K4
 replace H := H.keep [2, 3, 4, 5, 6] rfl
 refine seq_list fun K5 k5 => ?_
 refine ls 8 H <| sr 3 rfl <| sy rfl <| sr 1 rfl <| sy rfl <| sr 1 rfl <| sa rfl rfl rfl <| sr 1 rfl <| sy rfl <| sr 1 rfl <| sE ?_;clear H a;intro a H
 refine list_yes H rfl rfl ?_
 refine list_build' H rfl S sl_23 sz_3 ze_3 rfl rfl rfl rfl rfl rfl rfl rfl rfl ?_;clear H a S;intro A2 _ a hA2 S H
 refine list_yes H rfl rfl ?_
 refine list_call H rfl rfl Try.func25 rfl rfl (law12_same [0, 3, 1, 1] [0, 3, 1, 1] A6 _ c6 _ _ (ownM.inS S (i := 1) rfl) ((ownM.inS S (i := 0) rfl).congr (fun k j hk hj => cells4 k j hk hj)) (by decide) (by decide)) ?_;clear H a
 rintro _ _ a ⟨rfl, S2⟩ H
 replace S := S.call S2;clear S2
 refine ls 10 H <| sa rfl rfl rfl <| sr 1 rfl <| sy rfl <| sr 1 rfl <| sy rfl <| sr 1 rfl <| sa rfl rfl rfl <| sr 1 rfl <| sy rfl <| sr 1 rfl <| sy rfl <| sr 1 rfl <| sa rfl rfl rfl <| sr 1 rfl <| sE ?_;clear H a;intro a H
 refine k5 _ _ ?_;clear k5 K5
 refine wp_ret ?_
 refine ret1 (fn := Try.f11) rfl H rfl ?_
 exact ⟨rfl, (S.sel [] rfl rfl)⟩

end Go.Proofs.Ytopmadlgolnmfaa
