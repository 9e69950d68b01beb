/- ChN. Printed by gen.py. -/
import Derived.Test.YtopmadlgolnmfaaChM
namespace Go.Proofs.Ytopmadlgolnmfaa
open Go.RowKit
set_option linter.unusedVariables false
set_option linter.unusedSimpArgs false
set_option maxRecDepth 100000
set_option maxHeartbeats 4000000


def Worn (w : World) (p : Part) (l : List Use) (v : Value) (w' : World) : Prop :=
  (IsAt p l l.length ∧ ∃ A' c', v = .tuple #[.slice A' l.length c', .bool true] ∧ St w noF [ownM 68 2 A' l.length c' (fcell (wearAt p l))] w') ∨ (¬ IsAt p l l.length ∧ v = .tuple #[.slice none 0 0, .bool false] ∧ St w noF [] w')


theorem chain_worn (rates : List (Int × Int)) (pwn ptn pag : Int) (RA : Option Addr) (rcp : Nat) (l : List Use) (A : Option Addr) (cp : Nat) (w : World) (hr : InS w noF 2 RA rates.length (scell rates)) (hrn : rates.length ≤ 9223372036854775807) (hl : InS w noF 6 A l.length (ucell l)) (hn : l.length ≤ 9223372036854775807) (hok : PartOk (⟨rates, pwn, ptn, pag⟩ : Part) l) :
    Calls Try.prog 107 [.agg [.slice RA rates.length rcp, .int .i64 pwn, .int .i64 ptn, .int .i64 pag].toArray, .slice A l.length cp].toArray w (Ret (Worn w (⟨rates, pwn, ptn, pag⟩ : Part) l)) := by
 refine enter Try.func107 rfl Try.ntmps107 rfl (fun a H => ?_)
 have S := St.start w
 refine seq_list fun K1 k1 => ?_
 refine list_box H rfl S rfl rfl ?_;clear H a S;intro b2 _ a hb2 hbw2 S H
 refine ls 2 H <| sr 2 rfl <| sE ?_;clear H a;intro a H
 refine k1 _ _ ?_;clear k1 K1
 by_cases hA : IsAt (⟨rates, pwn, ptn, pag⟩ : Part) l l.length
 ·skip
  replace H := H.keep [1, 2] rfl
  refine seq_list fun K2 k2 => ?_
  refine ls 2 H <| sd ((does_loadBox agg_62 sz_62 rfl S (i := 0) rfl rfl)) <| sr 1 rfl <| sE ?_;clear H a;intro a H
  refine list_call H rfl rfl Try.func110 rfl rfl (ret_imp (chain_forth rates pwn ptn pag RA rcp l A cp _ (hr.now S) hrn (hl.now S) hn hok) (fun _ _ ⟨n, A', c', h1, h2, h3⟩ => (⟨A', c', by rw [h1.same hA] at h2; exact h2, by rw [h1.same hA] at h3; exact h3⟩ : ∃ A' c', _ ∧ _))) ?_;clear H a
  rintro _ _ a ⟨A', c', rfl, S2⟩ H
  replace S := S.call S2;clear S2
  refine ls 5 H <| sr 5 rfl <| sE ?_;clear H a;intro a H
  refine k2 _ _ ?_;clear k2 K2
  refine wp_seq_k fun K3 k3 => ?_
  try have hnl := hn1.le
  replace H := H.keep [1, 2, 6, 7] rfl
  refine sS H fun K4 k4=>sr 2 rfl <| sL sl_63 rfl <| sr 1 rfl <| sE ?_;clear H a;intro a H
  refine k4 _ ?_;clear k4 K4
  refine condL H rfl (fun hc1 => ?_) (fun hc1 => ?_)
  ·skip
   all_goals (exfalso; omega)
  refine wp_skip ?_
  refine k3 _ _ ?_
  refine wp_seq_k fun K5 k5 => ?_
  refine sS H fun K6 k6=>sr 1 rfl <| sL sl_63 rfl <| sd (does_sub rfl rfl (by unfold i64ok; omega)) <| sr 1 rfl <| sE ?_;clear H a;intro a H
  refine k6 _ ?_;clear k6 K6
  refine wp_block ?_
  have hll := hok.len
  replace S := S.recell (i := 0) rfl (cell' := fcell (fun q => if (l.length : Int) - 2 < ((q : Nat) : Int) then wearAt (⟨rates, pwn, ptn, pag⟩ : Part) l q else fwd (⟨rates, pwn, ptn, pag⟩ : Part) l (q + 1))) (fun q j hq hj => by
    unfold fcell; congr 1; (try dsimp only); by_cases h1 : (l.length : Int) - 2 < ((q : Nat) : Int)
    · rw [if_pos h1, wearAt_last (show q + 1 = l.length by omega), show q + 1 = l.length by omega]
    · rw [if_neg h1])
  refine loop_st (X := Int) (R0 := _) [1, 2, 6] H rfl (fun i => [(8, .int .i64 i)]) (fun i => [ownM 68 2 A' l.length c' (fcell (fun q => if i < ((q : Nat) : Int) then wearAt (⟨rates, pwn, ptn, pag⟩ : Part) l q else fwd (⟨rates, pwn, ptn, pag⟩ : Part) l (q + 1)))]) (fun g i => -2 ≤ i ∧ i ≤ (l.length : Int) - 2 ∧ g = (i + 2).toNat) (l.length) ((l.length : Int) - 2) ?_ (S.sel [0, 1] rfl rfl) (H.keep [8, 1, 2, 6] rfl) ?_
  · exact ⟨by omega, by omega, by omega⟩
  clear H S a
  intro g1 x1 a w1 hp S H K7 k7
  obtain ⟨i, rfl⟩ : ∃ y, y = x1 := ⟨_, rfl⟩
  refine wp_seq_k fun K8 k8 => ?_
  refine sS H fun K9 k9=>sr 2 rfl <| sE ?_;clear H a;intro a H
  refine k9 _ ?_;clear k9 K9
  refine condG H rfl (fun hc2 => ?_) (fun hc2 => ?_)
  ·skip
   refine wp_skip ?_
   refine k8 _ _ ?_
   refine wp_seq_k fun K10 k10 => ?_
   refine wp_block ?_
   have hu := hok.use (k := (i + 1).toNat) (by omega); unfold useOk at hu; simp only [decide_eq_true_eq] at hu
   have hgb := grown_bd hok (k := (i + 1).toNat) (by omega)
   have hcls : 0 ≤ (l.getD (i + 1).toNat Use.zero).cls ∧ (l.getD (i + 1).toNat Use.zero).cls < rates.length := by
     have : ((⟨rates, pwn, ptn, pag⟩ : Part).rates.length : Int) = rates.length := rfl
     omega
   have hll := hok.len
   replace H := H.keep [1, 2, 6, 8] rfl
   replace S := S.drew
   refine seq_wt 999999 (.q 0 (.q 1 (.q 2 (.q 3 (.q 4 (.q 5 (.q 7 (.q 8 (.q 9 (.q 10 (.q 11 (.b3 6 (.b2 12 (.e 13 (.e 14 (.e 15 .nil))) 13 (.e 12 (.e 14 (.e 15 .nil)))) 12 (.b2 6 (.e 13 (.e 14 (.e 15 .nil))) 13 (.e 6 (.e 14 (.e 15 .nil)))) 13 (.b2 6 (.e 12 (.e 14 (.e 15 .nil))) 12 (.e 6 (.e 14 (.e 15 .nil)))))))))))))))) (by kernel_rfl) (by kernel_rfl) (S.sel [0, 1] rfl rfl) fun K11 k11 => ?_
   refine wt_does H rfl rfl (fun _ S => (does_loadBox agg_62 sz_62 rfl S (i := 1) rfl rfl)) ?_;clear H a;intro a H
   refine wt_does H rfl rfl (fun _ S => does_move rfl) ?_;clear H a;intro a H
   refine wt_does H rfl rfl (fun _ S => does_move rfl) ?_;clear H a;intro a H
   refine wt_does H rfl rfl (fun _ S => does_add rfl rfl (by unfold i64ok; omega)) ?_;clear H a;intro a H
   refine wt_does H rfl rfl (fun _ S => does_index sl_63 sz_72 rfl rfl (hl.adr (by omega)) (by omega) (by omega)) ?_;clear H a;intro a H
   refine wt_does H rfl rfl (fun _ S => (does_loadIn agg_72 sz_72 rfl S hl (by omega) (by omega))) ?_;clear H a;intro a H
   refine wt_does H rfl rfl (fun _ S => does_move rfl) ?_;clear H a;intro a H
   refine wt_does H rfl rfl (fun _ S => does_move rfl) ?_;clear H a;intro a H
   refine wt_does H rfl rfl (fun _ S => does_add rfl rfl (by unfold i64ok; omega)) ?_;clear H a;intro a H
   refine wt_does H rfl rfl (fun _ S => does_index sl_58 sz_68 rfl rfl (ownM.adr S (i := 0) rfl (by omega)) (by omega) (by omega)) ?_;clear H a;intro a H
   refine wt_does H rfl rfl (fun _ S => does_loadAgg (vs := [.int .i64 (wearAt (⟨rates, pwn, ptn, pag⟩ : Part) l (i + 1).toNat).1, .int .i64 (wearAt (⟨rates, pwn, ptn, pag⟩ : Part) l (i + 1).toNat).2]) agg_68 sz_68 rfl (own_rd2 S (i := 0) rfl (by omega) (if_pos (by omega)))) ?_;clear H a;intro a H
   refine wt_b3 rfl rfl rfl ?_ ?_ ?_
   ·skip
    refine list_call H rfl rfl Try.func111 rfl rfl (chain_grown rates pwn ptn pag RA rcp (l.getD (i + 1).toNat Use.zero) _ (hr.now S) hrn hcls (by unfold i64ok; omega) (by unfold i64ok; omega)) ?_;clear H a
    rintro _ _ a ⟨rfl, S2⟩ H
    replace S := S.call S2;clear S2
    refine wpList_nil (And.intro (Or.inr (S.sel [0, 1] rfl rfl)) ?_)
    refine wt_b2 rfl rfl ?_ ?_
    ·skip
     refine list_alloc H rfl S ze_68 ?_;clear H a S;intro b9 _ a hb9 hbw9 S H
     refine wpList_nil (And.intro (Or.inr (S.sel [1, 2] rfl rfl)) ?_)
     refine wt_eff rfl ?_
     refine list_alloc H rfl S ze_68 ?_;clear H a S;intro b10 _ a hb10 hbw10 S H
     refine wpList_nil (And.intro (Or.inr (S.sel [2, 3] rfl rfl)) ?_)
     refine wt_eff rfl ?_
     refine list_store H S (i := 1) rfl rfl rfl rfl sz_68 rfl rfl ?_
     clear H a S;intro _ a S H
     refine wpList_nil (And.intro (Or.inr (S.sel [2, 3] rfl rfl)) ?_)
     refine wt_eff rfl ?_
     refine list_store H S (i := 0) rfl rfl rfl rfl sz_68 rfl rfl ?_
     clear H a S;intro _ a S H
     refine wpList_nil (And.intro (Or.inr (S.sel [2, 3] rfl rfl)) ?_)
     refine wt_nil ?_
     refine k11 _ _ ?_
     clear k11 K11
     have hbw := wearAt_bd hok (k := (i + 1).toNat) (by omega)
     replace H := H.keep [1, 2, 6, 8, 9, 10] rfl
     replace S := S.drew
     refine one_wt 22 (.q 0 (.q 1 (.q 2 (.q 3 (.q 4 (.q 5 (.q 6 (.q 7 (.q 8 (.q 9 (.q 10 (.q 11 (.q 12 (.q 13 (.q 14 (.q 15 (.q 16 (.e 17 (.q 18 (.q 19 (.p 20 (.q 21 (.e 22 .nil))))))))))))))))))))))) (by kernel_rfl) (by kernel_rfl) (S.sel [0, 1, 2, 3] rfl rfl) ?_
     refine wt_does H rfl rfl (fun _ S => does_move rfl) ?_;clear H a;intro a H
     refine wt_does H rfl rfl (fun _ S => does_move rfl) ?_;clear H a;intro a H
     refine wt_does H rfl rfl (fun _ S => does_move rfl) ?_;clear H a;intro a H
     refine wt_does H rfl rfl (fun _ S => does_move rfl) ?_;clear H a;intro a H
     refine wt_does H rfl rfl (fun _ S => does_index sl_58 sz_68 rfl rfl (ownM.adr S (i := 2) rfl (by omega)) (by omega) (by omega)) ?_;clear H a;intro a H
     refine wt_does H rfl rfl (fun _ S => does_loadAgg (vs := [.int .i64 (fwd (⟨rates, pwn, ptn, pag⟩ : Part) l (i.toNat + 1)).1, .int .i64 (fwd (⟨rates, pwn, ptn, pag⟩ : Part) l (i.toNat + 1)).2]) agg_68 sz_68 rfl (own_rd2 S (i := 2) rfl (by omega) (if_neg (by omega)))) ?_;clear H a;intro a H
     refine wt_does H rfl rfl (fun _ S => (does_field fo_68_0 rfl)) ?_;clear H a;intro a H
     refine wt_does H rfl rfl (fun _ S => does_load one_3 rfl (boxM.rd S (i := 0) rfl rfl)) ?_;clear H a;intro a H
     refine wt_does H rfl rfl (fun _ S => (does_field fo_68_1 rfl)) ?_;clear H a;intro a H
     refine wt_does H rfl rfl (fun _ S => does_load one_3 rfl (boxM.rd S (i := 1) rfl rfl)) ?_;clear H a;intro a H
     refine wt_does H rfl rfl (fun _ S => does_sub rfl rfl (by unfold i64ok; omega)) ?_;clear H a;intro a H
     refine wt_does H rfl rfl (fun _ S => (does_field fo_68_1 rfl)) ?_;clear H a;intro a H
     refine wt_does H rfl rfl (fun _ S => does_load one_3 rfl (boxM.rd S (i := 0) rfl rfl)) ?_;clear H a;intro a H
     refine wt_does H rfl rfl (fun _ S => (does_field fo_68_0 rfl)) ?_;clear H a;intro a H
     refine wt_does H rfl rfl (fun _ S => does_load one_3 rfl (boxM.rd S (i := 1) rfl rfl)) ?_;clear H a;intro a H
     refine wt_does H rfl rfl (fun _ S => does_sub rfl rfl (by unfold i64ok; omega)) ?_;clear H a;intro a H
     refine wt_does H rfl rfl (fun _ S => does_build bt_68 rfl rfl) ?_;clear H a;intro a H
     refine wt_eff rfl ?_
     refine list_call H rfl rfl Try.func112 rfl rfl (chain_meet (fwd (⟨rates, pwn, ptn, pag⟩ : Part) l (i.toNat + 1)).1 (fwd (⟨rates, pwn, ptn, pag⟩ : Part) l (i.toNat + 1)).2 _ _ _) ?_;clear H a
     rintro _ _ a ⟨rfl, S2⟩ H
     replace S := S.call S2;clear S2
     refine wpList_nil (And.intro (Or.inr (S.sel [0, 1, 2, 3] rfl rfl)) ?_)
     refine wt_does H rfl rfl (fun _ S => does_move rfl) ?_;clear H a;intro a H
     refine wt_does H rfl rfl (fun _ S => does_extract rfl rfl) ?_;clear H a;intro a H
     refine wt_pure H rfl rfl (fun _ => does_extract rfl rfl) ?_;clear H a;intro a H
     refine wt_does H rfl rfl (fun _ S => does_index sl_58 sz_68 rfl rfl (ownM.adr S (i := 2) rfl (by omega)) (by omega) (by omega)) ?_;clear H a;intro a H
     refine wt_eff rfl ?_
     refine list_store_own2 H S (i := 2) (kk := i.toNat) rfl rfl rfl (by omega) sz_68 ?_
     clear H a S;intro _ a S H
     have e9 := wearAt_step (p := (⟨rates, pwn, ptn, pag⟩ : Part)) (l := l) (k := i.toNat) (by omega)
     have e8 : i.toNat + 1 = (i + 1).toNat := by omega
     rw [e8] at e9
     replace S := S.recell (i := 2) rfl (cell' := fcell (fun q => if i - 1 < ((q : Nat) : Int) then wearAt (⟨rates, pwn, ptn, pag⟩ : Part) l q else fwd (⟨rates, pwn, ptn, pag⟩ : Part) l (q + 1))) (fun q j hq hj => by
       unfold fcell; congr 1; (try dsimp only); by_cases h1 : q = i.toNat
       · subst h1; rw [if_pos rfl, if_pos (by omega), e9, e8]
       · rw [if_neg h1]; by_cases h2 : i < (q : Int)
         · rw [if_pos h2, if_pos (by omega)]
         · rw [if_neg h2, if_neg (by omega)])
     refine wpList_nil (And.intro (Or.inl rfl) ?_)
     refine wt_nil ?_
     refine k10 _ _ ?_
     replace H := H.keep [1, 2, 6, 8] rfl
     refine sO H <| sr 1 rfl <| sd (does_sub rfl rfl (by unfold i64ok; omega)) <| sr 1 rfl <| sE ?_;clear H a;intro a H
     exact k7 (g1 - 1) (i - 1) a _ (by omega) (⟨by omega, by omega, by omega⟩) (S.sel [2, 3] rfl rfl) (H.keep [8, 1, 2, 6] rfl)
    ·skip
     refine list_alloc H rfl S ze_68 ?_;clear H a S;intro b10 _ a hb10 hbw10 S H
     refine wpList_nil (And.intro (Or.inr (S.sel [1, 2] rfl rfl)) ?_)
     refine wt_eff rfl ?_
     refine list_alloc H rfl S ze_68 ?_;clear H a S;intro b9 _ a hb9 hbw9 S H
     refine wpList_nil (And.intro (Or.inr (S.sel [2, 3] rfl rfl)) ?_)
     refine wt_eff rfl ?_
     refine list_store H S (i := 0) rfl rfl rfl rfl sz_68 rfl rfl ?_
     clear H a S;intro _ a S H
     refine wpList_nil (And.intro (Or.inr (S.sel [2, 3] rfl rfl)) ?_)
     refine wt_eff rfl ?_
     refine list_store H S (i := 1) rfl rfl rfl rfl sz_68 rfl rfl ?_
     clear H a S;intro _ a S H
     refine wpList_nil (And.intro (Or.inr (S.sel [2, 3] rfl rfl)) ?_)
     refine wt_nil ?_
     refine k11 _ _ ?_
     clear k11 K11
     have hbw := wearAt_bd hok (k := (i + 1).toNat) (by omega)
     replace H := H.keep [1, 2, 6, 8, 9, 10] rfl
     replace S := S.drew
     refine one_wt 22 (.q 0 (.q 1 (.q 2 (.q 3 (.q 4 (.q 5 (.q 6 (.q 7 (.q 8 (.q 9 (.q 10 (.q 11 (.q 12 (.q 13 (.q 14 (.q 15 (.q 16 (.e 17 (.q 18 (.q 19 (.p 20 (.q 21 (.e 22 .nil))))))))))))))))))))))) (by kernel_rfl) (by kernel_rfl) (S.sel [0, 1, 2, 3] rfl rfl) ?_
     refine wt_does H rfl rfl (fun _ S => does_move rfl) ?_;clear H a;intro a H
     refine wt_does H rfl rfl (fun _ S => does_move rfl) ?_;clear H a;intro a H
     refine wt_does H rfl rfl (fun _ S => does_move rfl) ?_;clear H a;intro a H
     refine wt_does H rfl rfl (fun _ S => does_move rfl) ?_;clear H a;intro a H
     refine wt_does H rfl rfl (fun _ S => does_index sl_58 sz_68 rfl rfl (ownM.adr S (i := 2) rfl (by omega)) (by omega) (by omega)) ?_;clear H a;intro a H
     refine wt_does H rfl rfl (fun _ S => does_loadAgg (vs := [.int .i64 (fwd (⟨rates, pwn, ptn, pag⟩ : Part) l (i.toNat + 1)).1, .int .i64 (fwd (⟨rates, pwn, ptn, pag⟩ : Part) l (i.toNat + 1)).2]) agg_68 sz_68 rfl (own_rd2 S (i := 2) rfl (by omega) (if_neg (by omega)))) ?_;clear H a;intro a H
     refine wt_does H rfl rfl (fun _ S => (does_field fo_68_0 rfl)) ?_;clear H a;intro a H
     refine wt_does H rfl rfl (fun _ S => does_load one_3 rfl (boxM.rd S (i := 1) rfl rfl)) ?_;clear H a;intro a H
     refine wt_does H rfl rfl (fun _ S => (does_field fo_68_1 rfl)) ?_;clear H a;intro a H
     refine wt_does H rfl rfl (fun _ S => does_load one_3 rfl (boxM.rd S (i := 0) rfl rfl)) ?_;clear H a;intro a H
     refine wt_does H rfl rfl (fun _ S => does_sub rfl rfl (by unfold i64ok; omega)) ?_;clear H a;intro a H
     refine wt_does H rfl rfl (fun _ S => (does_field fo_68_1 rfl)) ?_;clear H a;intro a H
     refine wt_does H rfl rfl (fun _ S => does_load one_3 rfl (boxM.rd S (i := 1) rfl rfl)) ?_;clear H a;intro a H
     refine wt_does H rfl rfl (fun _ S => (does_field fo_68_0 rfl)) ?_;clear H a;intro a H
     refine wt_does H rfl rfl (fun _ S => does_load one_3 rfl (boxM.rd S (i := 0) rfl rfl)) ?_;clear H a;intro a H
     refine wt_does H rfl rfl (fun _ S => does_sub rfl rfl (by unfold i64ok; omega)) ?_;clear H a;intro a H
     refine wt_does H rfl rfl (fun _ S => does_build bt_68 rfl rfl) ?_;clear H a;intro a H
     refine wt_eff rfl ?_
     refine list_call H rfl rfl Try.func112 rfl rfl (chain_meet (fwd (⟨rates, pwn, ptn, pag⟩ : Part) l (i.toNat + 1)).1 (fwd (⟨rates, pwn, ptn, pag⟩ : Part) l (i.toNat + 1)).2 _ _ _) ?_;clear H a
     rintro _ _ a ⟨rfl, S2⟩ H
     replace S := S.call S2;clear S2
     refine wpList_nil (And.intro (Or.inr (S.sel [0, 1, 2, 3] rfl rfl)) ?_)
     refine wt_does H rfl rfl (fun _ S => does_move rfl) ?_;clear H a;intro a H
     refine wt_does H rfl rfl (fun _ S => does_extract rfl rfl) ?_;clear H a;intro a H
     refine wt_pure H rfl rfl (fun _ => does_extract rfl rfl) ?_;clear H a;intro a H
     refine wt_does H rfl rfl (fun _ S => does_index sl_58 sz_68 rfl rfl (ownM.adr S (i := 2) rfl (by omega)) (by omega) (by omega)) ?_;clear H a;intro a H
     refine wt_eff rfl ?_
     refine list_store_own2 H S (i := 2) (kk := i.toNat) rfl rfl rfl (by omega) sz_68 ?_
     clear H a S;intro _ a S H
     have e9 := wearAt_step (p := (⟨rates, pwn, ptn, pag⟩ : Part)) (l := l) (k := i.toNat) (by omega)
     have e8 : i.toNat + 1 = (i + 1).toNat := by omega
     rw [e8] at e9
     replace S := S.recell (i := 2) rfl (cell' := fcell (fun q => if i - 1 < ((q : Nat) : Int) then wearAt (⟨rates, pwn, ptn, pag⟩ : Part) l q else fwd (⟨rates, pwn, ptn, pag⟩ : Part) l (q + 1))) (fun q j hq hj => by
       unfold fcell; congr 1; (try dsimp only); by_cases h1 : q = i.toNat
       · subst h1; rw [if_pos rfl, if_pos (by omega), e9, e8]
       · rw [if_neg h1]; by_cases h2 : i < (q : Int)
         · rw [if_pos h2, if_pos (by omega)]
         · rw [if_neg h2, if_neg (by omega)])
     refine wpList_nil (And.intro (Or.inl rfl) ?_)
     refine wt_nil ?_
     refine k10 _ _ ?_
     replace H := H.keep [1, 2, 6, 8] rfl
     refine sO H <| sr 1 rfl <| sd (does_sub rfl rfl (by unfold i64ok; omega)) <| sr 1 rfl <| sE ?_;clear H a;intro a H
     exact k7 (g1 - 1) (i - 1) a _ (by omega) (⟨by omega, by omega, by omega⟩) (S.sel [2, 3] rfl rfl) (H.keep [8, 1, 2, 6] rfl)
   ·skip
    refine list_alloc H rfl S ze_68 ?_;clear H a S;intro b9 _ a hb9 hbw9 S H
    refine wpList_nil (And.intro (Or.inr (S.sel [1, 2] rfl rfl)) ?_)
    refine wt_b2 rfl rfl ?_ ?_
    ·skip
     refine list_call H rfl rfl Try.func111 rfl rfl (chain_grown rates pwn ptn pag RA rcp (l.getD (i + 1).toNat Use.zero) _ (hr.now S) hrn hcls (by unfold i64ok; omega) (by unfold i64ok; omega)) ?_;clear H a
     rintro _ _ a ⟨rfl, S2⟩ H
     replace S := S.call S2;clear S2
     refine wpList_nil (And.intro (Or.inr (S.sel [1, 2] rfl rfl)) ?_)
     refine wt_eff rfl ?_
     refine list_alloc H rfl S ze_68 ?_;clear H a S;intro b10 _ a hb10 hbw10 S H
     refine wpList_nil (And.intro (Or.inr (S.sel [2, 3] rfl rfl)) ?_)
     refine wt_eff rfl ?_
     refine list_store H S (i := 1) rfl rfl rfl rfl sz_68 rfl rfl ?_
     clear H a S;intro _ a S H
     refine wpList_nil (And.intro (Or.inr (S.sel [2, 3] rfl rfl)) ?_)
     refine wt_eff rfl ?_
     refine list_store H S (i := 0) rfl rfl rfl rfl sz_68 rfl rfl ?_
     clear H a S;intro _ a S H
     refine wpList_nil (And.intro (Or.inr (S.sel [2, 3] rfl rfl)) ?_)
     refine wt_nil ?_
     refine k11 _ _ ?_
     clear k11 K11
     have hbw := wearAt_bd hok (k := (i + 1).toNat) (by omega)
     replace H := H.keep [1, 2, 6, 8, 9, 10] rfl
     replace S := S.drew
     refine one_wt 22 (.q 0 (.q 1 (.q 2 (.q 3 (.q 4 (.q 5 (.q 6 (.q 7 (.q 8 (.q 9 (.q 10 (.q 11 (.q 12 (.q 13 (.q 14 (.q 15 (.q 16 (.e 17 (.q 18 (.q 19 (.p 20 (.q 21 (.e 22 .nil))))))))))))))))))))))) (by kernel_rfl) (by kernel_rfl) (S.sel [0, 1, 2, 3] rfl rfl) ?_
     refine wt_does H rfl rfl (fun _ S => does_move rfl) ?_;clear H a;intro a H
     refine wt_does H rfl rfl (fun _ S => does_move rfl) ?_;clear H a;intro a H
     refine wt_does H rfl rfl (fun _ S => does_move rfl) ?_;clear H a;intro a H
     refine wt_does H rfl rfl (fun _ S => does_move rfl) ?_;clear H a;intro a H
     refine wt_does H rfl rfl (fun _ S => does_index sl_58 sz_68 rfl rfl (ownM.adr S (i := 2) rfl (by omega)) (by omega) (by omega)) ?_;clear H a;intro a H
     refine wt_does H rfl rfl (fun _ S => does_loadAgg (vs := [.int .i64 (fwd (⟨rates, pwn, ptn, pag⟩ : Part) l (i.toNat + 1)).1, .int .i64 (fwd (⟨rates, pwn, ptn, pag⟩ : Part) l (i.toNat + 1)).2]) agg_68 sz_68 rfl (own_rd2 S (i := 2) rfl (by omega) (if_neg (by omega)))) ?_;clear H a;intro a H
     refine wt_does H rfl rfl (fun _ S => (does_field fo_68_0 rfl)) ?_;clear H a;intro a H
     refine wt_does H rfl rfl (fun _ S => does_load one_3 rfl (boxM.rd S (i := 0) rfl rfl)) ?_;clear H a;intro a H
     refine wt_does H rfl rfl (fun _ S => (does_field fo_68_1 rfl)) ?_;clear H a;intro a H
     refine wt_does H rfl rfl (fun _ S => does_load one_3 rfl (boxM.rd S (i := 1) rfl rfl)) ?_;clear H a;intro a H
     refine wt_does H rfl rfl (fun _ S => does_sub rfl rfl (by unfold i64ok; omega)) ?_;clear H a;intro a H
     refine wt_does H rfl rfl (fun _ S => (does_field fo_68_1 rfl)) ?_;clear H a;intro a H
     refine wt_does H rfl rfl (fun _ S => does_load one_3 rfl (boxM.rd S (i := 0) rfl rfl)) ?_;clear H a;intro a H
     refine wt_does H rfl rfl (fun _ S => (does_field fo_68_0 rfl)) ?_;clear H a;intro a H
     refine wt_does H rfl rfl (fun _ S => does_load one_3 rfl (boxM.rd S (i := 1) rfl rfl)) ?_;clear H a;intro a H
     refine wt_does H rfl rfl (fun _ S => does_sub rfl rfl (by unfold i64ok; omega)) ?_;clear H a;intro a H
     refine wt_does H rfl rfl (fun _ S => does_build bt_68 rfl rfl) ?_;clear H a;intro a H
     refine wt_eff rfl ?_
     refine list_call H rfl rfl Try.func112 rfl rfl (chain_meet (fwd (⟨rates, pwn, ptn, pag⟩ : Part) l (i.toNat + 1)).1 (fwd (⟨rates, pwn, ptn, pag⟩ : Part) l (i.toNat + 1)).2 _ _ _) ?_;clear H a
     rintro _ _ a ⟨rfl, S2⟩ H
     replace S := S.call S2;clear S2
     refine wpList_nil (And.intro (Or.inr (S.sel [0, 1, 2, 3] rfl rfl)) ?_)
     refine wt_does H rfl rfl (fun _ S => does_move rfl) ?_;clear H a;intro a H
     refine wt_does H rfl rfl (fun _ S => does_extract rfl rfl) ?_;clear H a;intro a H
     refine wt_pure H rfl rfl (fun _ => does_extract rfl rfl) ?_;clear H a;intro a H
     refine wt_does H rfl rfl (fun _ S => does_index sl_58 sz_68 rfl rfl (ownM.adr S (i := 2) rfl (by omega)) (by omega) (by omega)) ?_;clear H a;intro a H
     refine wt_eff rfl ?_
     refine list_store_own2 H S (i := 2) (kk := i.toNat) rfl rfl rfl (by omega) sz_68 ?_
     clear H a S;intro _ a S H
     have e9 := wearAt_step (p := (⟨rates, pwn, ptn, pag⟩ : Part)) (l := l) (k := i.toNat) (by omega)
     have e8 : i.toNat + 1 = (i + 1).toNat := by omega
     rw [e8] at e9
     replace S := S.recell (i := 2) rfl (cell' := fcell (fun q => if i - 1 < ((q : Nat) : Int) then wearAt (⟨rates, pwn, ptn, pag⟩ : Part) l q else fwd (⟨rates, pwn, ptn, pag⟩ : Part) l (q + 1))) (fun q j hq hj => by
       unfold fcell; congr 1; (try dsimp only); by_cases h1 : q = i.toNat
       · subst h1; rw [if_pos rfl, if_pos (by omega), e9, e8]
       · rw [if_neg h1]; by_cases h2 : i < (q : Int)
         · rw [if_pos h2, if_pos (by omega)]
         · rw [if_neg h2, if_neg (by omega)])
     refine wpList_nil (And.intro (Or.inl rfl) ?_)
     refine wt_nil ?_
     refine k10 _ _ ?_
     replace H := H.keep [1, 2, 6, 8] rfl
     refine sO H <| sr 1 rfl <| sd (does_sub rfl rfl (by unfold i64ok; omega)) <| sr 1 rfl <| sE ?_;clear H a;intro a H
     exact k7 (g1 - 1) (i - 1) a _ (by omega) (⟨by omega, by omega, by omega⟩) (S.sel [2, 3] rfl rfl) (H.keep [8, 1, 2, 6] rfl)
    ·skip
     refine list_alloc H rfl S ze_68 ?_;clear H a S;intro b10 _ a hb10 hbw10 S H
     refine wpList_nil (And.intro (Or.inr (S.sel [2, 3] rfl rfl)) ?_)
     refine wt_eff rfl ?_
     refine list_call H rfl rfl Try.func111 rfl rfl (chain_grown rates pwn ptn pag RA rcp (l.getD (i + 1).toNat Use.zero) _ (hr.now S) hrn hcls (by unfold i64ok; omega) (by unfold i64ok; omega)) ?_;clear H a
     rintro _ _ a ⟨rfl, S2⟩ H
     replace S := S.call S2;clear S2
     refine wpList_nil (And.intro (Or.inr (S.sel [2, 3] rfl rfl)) ?_)
     refine wt_eff rfl ?_
     refine list_store H S (i := 1) rfl rfl rfl rfl sz_68 rfl rfl ?_
     clear H a S;intro _ a S H
     refine wpList_nil (And.intro (Or.inr (S.sel [2, 3] rfl rfl)) ?_)
     refine wt_eff rfl ?_
     refine list_store H S (i := 0) rfl rfl rfl rfl sz_68 rfl rfl ?_
     clear H a S;intro _ a S H
     refine wpList_nil (And.intro (Or.inr (S.sel [2, 3] rfl rfl)) ?_)
     refine wt_nil ?_
     refine k11 _ _ ?_
     clear k11 K11
     have hbw := wearAt_bd hok (k := (i + 1).toNat) (by omega)
     replace H := H.keep [1, 2, 6, 8, 9, 10] rfl
     replace S := S.drew
     refine one_wt 22 (.q 0 (.q 1 (.q 2 (.q 3 (.q 4 (.q 5 (.q 6 (.q 7 (.q 8 (.q 9 (.q 10 (.q 11 (.q 12 (.q 13 (.q 14 (.q 15 (.q 16 (.e 17 (.q 18 (.q 19 (.p 20 (.q 21 (.e 22 .nil))))))))))))))))))))))) (by kernel_rfl) (by kernel_rfl) (S.sel [0, 1, 2, 3] rfl rfl) ?_
     refine wt_does H rfl rfl (fun _ S => does_move rfl) ?_;clear H a;intro a H
     refine wt_does H rfl rfl (fun _ S => does_move rfl) ?_;clear H a;intro a H
     refine wt_does H rfl rfl (fun _ S => does_move rfl) ?_;clear H a;intro a H
     refine wt_does H rfl rfl (fun _ S => does_move rfl) ?_;clear H a;intro a H
     refine wt_does H rfl rfl (fun _ S => does_index sl_58 sz_68 rfl rfl (ownM.adr S (i := 2) rfl (by omega)) (by omega) (by omega)) ?_;clear H a;intro a H
     refine wt_does H rfl rfl (fun _ S => does_loadAgg (vs := [.int .i64 (fwd (⟨rates, pwn, ptn, pag⟩ : Part) l (i.toNat + 1)).1, .int .i64 (fwd (⟨rates, pwn, ptn, pag⟩ : Part) l (i.toNat + 1)).2]) agg_68 sz_68 rfl (own_rd2 S (i := 2) rfl (by omega) (if_neg (by omega)))) ?_;clear H a;intro a H
     refine wt_does H rfl rfl (fun _ S => (does_field fo_68_0 rfl)) ?_;clear H a;intro a H
     refine wt_does H rfl rfl (fun _ S => does_load one_3 rfl (boxM.rd S (i := 0) rfl rfl)) ?_;clear H a;intro a H
     refine wt_does H rfl rfl (fun _ S => (does_field fo_68_1 rfl)) ?_;clear H a;intro a H
     refine wt_does H rfl rfl (fun _ S => does_load one_3 rfl (boxM.rd S (i := 1) rfl rfl)) ?_;clear H a;intro a H
     refine wt_does H rfl rfl (fun _ S => does_sub rfl rfl (by unfold i64ok; omega)) ?_;clear H a;intro a H
     refine wt_does H rfl rfl (fun _ S => (does_field fo_68_1 rfl)) ?_;clear H a;intro a H
     refine wt_does H rfl rfl (fun _ S => does_load one_3 rfl (boxM.rd S (i := 0) rfl rfl)) ?_;clear H a;intro a H
     refine wt_does H rfl rfl (fun _ S => (does_field fo_68_0 rfl)) ?_;clear H a;intro a H
     refine wt_does H rfl rfl (fun _ S => does_load one_3 rfl (boxM.rd S (i := 1) rfl rfl)) ?_;clear H a;intro a H
     refine wt_does H rfl rfl (fun _ S => does_sub rfl rfl (by unfold i64ok; omega)) ?_;clear H a;intro a H
     refine wt_does H rfl rfl (fun _ S => does_build bt_68 rfl rfl) ?_;clear H a;intro a H
     refine wt_eff rfl ?_
     refine list_call H rfl rfl Try.func112 rfl rfl (chain_meet (fwd (⟨rates, pwn, ptn, pag⟩ : Part) l (i.toNat + 1)).1 (fwd (⟨rates, pwn, ptn, pag⟩ : Part) l (i.toNat + 1)).2 _ _ _) ?_;clear H a
     rintro _ _ a ⟨rfl, S2⟩ H
     replace S := S.call S2;clear S2
     refine wpList_nil (And.intro (Or.inr (S.sel [0, 1, 2, 3] rfl rfl)) ?_)
     refine wt_does H rfl rfl (fun _ S => does_move rfl) ?_;clear H a;intro a H
     refine wt_does H rfl rfl (fun _ S => does_extract rfl rfl) ?_;clear H a;intro a H
     refine wt_pure H rfl rfl (fun _ => does_extract rfl rfl) ?_;clear H a;intro a H
     refine wt_does H rfl rfl (fun _ S => does_index sl_58 sz_68 rfl rfl (ownM.adr S (i := 2) rfl (by omega)) (by omega) (by omega)) ?_;clear H a;intro a H
     refine wt_eff rfl ?_
     refine list_store_own2 H S (i := 2) (kk := i.toNat) rfl rfl rfl (by omega) sz_68 ?_
     clear H a S;intro _ a S H
     have e9 := wearAt_step (p := (⟨rates, pwn, ptn, pag⟩ : Part)) (l := l) (k := i.toNat) (by omega)
     have e8 : i.toNat + 1 = (i + 1).toNat := by omega
     rw [e8] at e9
     replace S := S.recell (i := 2) rfl (cell' := fcell (fun q => if i - 1 < ((q : Nat) : Int) then wearAt (⟨rates, pwn, ptn, pag⟩ : Part) l q else fwd (⟨rates, pwn, ptn, pag⟩ : Part) l (q + 1))) (fun q j hq hj => by
       unfold fcell; congr 1; (try dsimp only); by_cases h1 : q = i.toNat
       · subst h1; rw [if_pos rfl, if_pos (by omega), e9, e8]
       · rw [if_neg h1]; by_cases h2 : i < (q : Int)
         · rw [if_pos h2, if_pos (by omega)]
         · rw [if_neg h2, if_neg (by omega)])
     refine wpList_nil (And.intro (Or.inl rfl) ?_)
     refine wt_nil ?_
     refine k10 _ _ ?_
     replace H := H.keep [1, 2, 6, 8] rfl
     refine sO H <| sr 1 rfl <| sd (does_sub rfl rfl (by unfold i64ok; omega)) <| sr 1 rfl <| sE ?_;clear H a;intro a H
     exact k7 (g1 - 1) (i - 1) a _ (by omega) (⟨by omega, by omega, by omega⟩) (S.sel [2, 3] rfl rfl) (H.keep [8, 1, 2, 6] rfl)
   ·skip
    refine list_alloc H rfl S ze_68 ?_;clear H a S;intro b10 _ a hb10 hbw10 S H
    refine wpList_nil (And.intro (Or.inr (S.sel [1, 2] rfl rfl)) ?_)
    refine wt_b2 rfl rfl ?_ ?_
    ·skip
     refine list_call H rfl rfl Try.func111 rfl rfl (chain_grown rates pwn ptn pag RA rcp (l.getD (i + 1).toNat Use.zero) _ (hr.now S) hrn hcls (by unfold i64ok; omega) (by unfold i64ok; omega)) ?_;clear H a
     rintro _ _ a ⟨rfl, S2⟩ H
     replace S := S.call S2;clear S2
     refine wpList_nil (And.intro (Or.inr (S.sel [1, 2] rfl rfl)) ?_)
     refine wt_eff rfl ?_
     refine list_alloc H rfl S ze_68 ?_;clear H a S;intro b9 _ a hb9 hbw9 S H
     refine wpList_nil (And.intro (Or.inr (S.sel [2, 3] rfl rfl)) ?_)
     refine wt_eff rfl ?_
     refine list_store H S (i := 0) rfl rfl rfl rfl sz_68 rfl rfl ?_
     clear H a S;intro _ a S H
     refine wpList_nil (And.intro (Or.inr (S.sel [2, 3] rfl rfl)) ?_)
     refine wt_eff rfl ?_
     refine list_store H S (i := 1) rfl rfl rfl rfl sz_68 rfl rfl ?_
     clear H a S;intro _ a S H
     refine wpList_nil (And.intro (Or.inr (S.sel [2, 3] rfl rfl)) ?_)
     refine wt_nil ?_
     refine k11 _ _ ?_
     clear k11 K11
     have hbw := wearAt_bd hok (k := (i + 1).toNat) (by omega)
     replace H := H.keep [1, 2, 6, 8, 9, 10] rfl
     replace S := S.drew
     refine one_wt 22 (.q 0 (.q 1 (.q 2 (.q 3 (.q 4 (.q 5 (.q 6 (.q 7 (.q 8 (.q 9 (.q 10 (.q 11 (.q 12 (.q 13 (.q 14 (.q 15 (.q 16 (.e 17 (.q 18 (.q 19 (.p 20 (.q 21 (.e 22 .nil))))))))))))))))))))))) (by kernel_rfl) (by kernel_rfl) (S.sel [0, 1, 2, 3] rfl rfl) ?_
     refine wt_does H rfl rfl (fun _ S => does_move rfl) ?_;clear H a;intro a H
     refine wt_does H rfl rfl (fun _ S => does_move rfl) ?_;clear H a;intro a H
     refine wt_does H rfl rfl (fun _ S => does_move rfl) ?_;clear H a;intro a H
     refine wt_does H rfl rfl (fun _ S => does_move rfl) ?_;clear H a;intro a H
     refine wt_does H rfl rfl (fun _ S => does_index sl_58 sz_68 rfl rfl (ownM.adr S (i := 2) rfl (by omega)) (by omega) (by omega)) ?_;clear H a;intro a H
     refine wt_does H rfl rfl (fun _ S => does_loadAgg (vs := [.int .i64 (fwd (⟨rates, pwn, ptn, pag⟩ : Part) l (i.toNat + 1)).1, .int .i64 (fwd (⟨rates, pwn, ptn, pag⟩ : Part) l (i.toNat + 1)).2]) agg_68 sz_68 rfl (own_rd2 S (i := 2) rfl (by omega) (if_neg (by omega)))) ?_;clear H a;intro a H
     refine wt_does H rfl rfl (fun _ S => (does_field fo_68_0 rfl)) ?_;clear H a;intro a H
     refine wt_does H rfl rfl (fun _ S => does_load one_3 rfl (boxM.rd S (i := 1) rfl rfl)) ?_;clear H a;intro a H
     refine wt_does H rfl rfl (fun _ S => (does_field fo_68_1 rfl)) ?_;clear H a;intro a H
     refine wt_does H rfl rfl (fun _ S => does_load one_3 rfl (boxM.rd S (i := 0) rfl rfl)) ?_;clear H a;intro a H
     refine wt_does H rfl rfl (fun _ S => does_sub rfl rfl (by unfold i64ok; omega)) ?_;clear H a;intro a H
     refine wt_does H rfl rfl (fun _ S => (does_field fo_68_1 rfl)) ?_;clear H a;intro a H
     refine wt_does H rfl rfl (fun _ S => does_load one_3 rfl (boxM.rd S (i := 1) rfl rfl)) ?_;clear H a;intro a H
     refine wt_does H rfl rfl (fun _ S => (does_field fo_68_0 rfl)) ?_;clear H a;intro a H
     refine wt_does H rfl rfl (fun _ S => does_load one_3 rfl (boxM.rd S (i := 0) rfl rfl)) ?_;clear H a;intro a H
     refine wt_does H rfl rfl (fun _ S => does_sub rfl rfl (by unfold i64ok; omega)) ?_;clear H a;intro a H
     refine wt_does H rfl rfl (fun _ S => does_build bt_68 rfl rfl) ?_;clear H a;intro a H
     refine wt_eff rfl ?_
     refine list_call H rfl rfl Try.func112 rfl rfl (chain_meet (fwd (⟨rates, pwn, ptn, pag⟩ : Part) l (i.toNat + 1)).1 (fwd (⟨rates, pwn, ptn, pag⟩ : Part) l (i.toNat + 1)).2 _ _ _) ?_;clear H a
     rintro _ _ a ⟨rfl, S2⟩ H
     replace S := S.call S2;clear S2
     refine wpList_nil (And.intro (Or.inr (S.sel [0, 1, 2, 3] rfl rfl)) ?_)
     refine wt_does H rfl rfl (fun _ S => does_move rfl) ?_;clear H a;intro a H
     refine wt_does H rfl rfl (fun _ S => does_extract rfl rfl) ?_;clear H a;intro a H
     refine wt_pure H rfl rfl (fun _ => does_extract rfl rfl) ?_;clear H a;intro a H
     refine wt_does H rfl rfl (fun _ S => does_index sl_58 sz_68 rfl rfl (ownM.adr S (i := 2) rfl (by omega)) (by omega) (by omega)) ?_;clear H a;intro a H
     refine wt_eff rfl ?_
     refine list_store_own2 H S (i := 2) (kk := i.toNat) rfl rfl rfl (by omega) sz_68 ?_
     clear H a S;intro _ a S H
     have e9 := wearAt_step (p := (⟨rates, pwn, ptn, pag⟩ : Part)) (l := l) (k := i.toNat) (by omega)
     have e8 : i.toNat + 1 = (i + 1).toNat := by omega
     rw [e8] at e9
     replace S := S.recell (i := 2) rfl (cell' := fcell (fun q => if i - 1 < ((q : Nat) : Int) then wearAt (⟨rates, pwn, ptn, pag⟩ : Part) l q else fwd (⟨rates, pwn, ptn, pag⟩ : Part) l (q + 1))) (fun q j hq hj => by
       unfold fcell; congr 1; (try dsimp only); by_cases h1 : q = i.toNat
       · subst h1; rw [if_pos rfl, if_pos (by omega), e9, e8]
       · rw [if_neg h1]; by_cases h2 : i < (q : Int)
         · rw [if_pos h2, if_pos (by omega)]
         · rw [if_neg h2, if_neg (by omega)])
     refine wpList_nil (And.intro (Or.inl rfl) ?_)
     refine wt_nil ?_
     refine k10 _ _ ?_
     replace H := H.keep [1, 2, 6, 8] rfl
     refine sO H <| sr 1 rfl <| sd (does_sub rfl rfl (by unfold i64ok; omega)) <| sr 1 rfl <| sE ?_;clear H a;intro a H
     exact k7 (g1 - 1) (i - 1) a _ (by omega) (⟨by omega, by omega, by omega⟩) (S.sel [2, 3] rfl rfl) (H.keep [8, 1, 2, 6] rfl)
    ·skip
     refine list_alloc H rfl S ze_68 ?_;clear H a S;intro b9 _ a hb9 hbw9 S H
     refine wpList_nil (And.intro (Or.inr (S.sel [2, 3] rfl rfl)) ?_)
     refine wt_eff rfl ?_
     refine list_call H rfl rfl Try.func111 rfl rfl (chain_grown rates pwn ptn pag RA rcp (l.getD (i + 1).toNat Use.zero) _ (hr.now S) hrn hcls (by unfold i64ok; omega) (by unfold i64ok; omega)) ?_;clear H a
     rintro _ _ a ⟨rfl, S2⟩ H
     replace S := S.call S2;clear S2
     refine wpList_nil (And.intro (Or.inr (S.sel [2, 3] rfl rfl)) ?_)
     refine wt_eff rfl ?_
     refine list_store H S (i := 0) rfl rfl rfl rfl sz_68 rfl rfl ?_
     clear H a S;intro _ a S H
     refine wpList_nil (And.intro (Or.inr (S.sel [2, 3] rfl rfl)) ?_)
     refine wt_eff rfl ?_
     refine list_store H S (i := 1) rfl rfl rfl rfl sz_68 rfl rfl ?_
     clear H a S;intro _ a S H
     refine wpList_nil (And.intro (Or.inr (S.sel [2, 3] rfl rfl)) ?_)
     refine wt_nil ?_
     refine k11 _ _ ?_
     clear k11 K11
     have hbw := wearAt_bd hok (k := (i + 1).toNat) (by omega)
     replace H := H.keep [1, 2, 6, 8, 9, 10] rfl
     replace S := S.drew
     refine one_wt 22 (.q 0 (.q 1 (.q 2 (.q 3 (.q 4 (.q 5 (.q 6 (.q 7 (.q 8 (.q 9 (.q 10 (.q 11 (.q 12 (.q 13 (.q 14 (.q 15 (.q 16 (.e 17 (.q 18 (.q 19 (.p 20 (.q 21 (.e 22 .nil))))))))))))))))))))))) (by kernel_rfl) (by kernel_rfl) (S.sel [0, 1, 2, 3] rfl rfl) ?_
     refine wt_does H rfl rfl (fun _ S => does_move rfl) ?_;clear H a;intro a H
     refine wt_does H rfl rfl (fun _ S => does_move rfl) ?_;clear H a;intro a H
     refine wt_does H rfl rfl (fun _ S => does_move rfl) ?_;clear H a;intro a H
     refine wt_does H rfl rfl (fun _ S => does_move rfl) ?_;clear H a;intro a H
     refine wt_does H rfl rfl (fun _ S => does_index sl_58 sz_68 rfl rfl (ownM.adr S (i := 2) rfl (by omega)) (by omega) (by omega)) ?_;clear H a;intro a H
     refine wt_does H rfl rfl (fun _ S => does_loadAgg (vs := [.int .i64 (fwd (⟨rates, pwn, ptn, pag⟩ : Part) l (i.toNat + 1)).1, .int .i64 (fwd (⟨rates, pwn, ptn, pag⟩ : Part) l (i.toNat + 1)).2]) agg_68 sz_68 rfl (own_rd2 S (i := 2) rfl (by omega) (if_neg (by omega)))) ?_;clear H a;intro a H
     refine wt_does H rfl rfl (fun _ S => (does_field fo_68_0 rfl)) ?_;clear H a;intro a H
     refine wt_does H rfl rfl (fun _ S => does_load one_3 rfl (boxM.rd S (i := 1) rfl rfl)) ?_;clear H a;intro a H
     refine wt_does H rfl rfl (fun _ S => (does_field fo_68_1 rfl)) ?_;clear H a;intro a H
     refine wt_does H rfl rfl (fun _ S => does_load one_3 rfl (boxM.rd S (i := 0) rfl rfl)) ?_;clear H a;intro a H
     refine wt_does H rfl rfl (fun _ S => does_sub rfl rfl (by unfold i64ok; omega)) ?_;clear H a;intro a H
     refine wt_does H rfl rfl (fun _ S => (does_field fo_68_1 rfl)) ?_;clear H a;intro a H
     refine wt_does H rfl rfl (fun _ S => does_load one_3 rfl (boxM.rd S (i := 1) rfl rfl)) ?_;clear H a;intro a H
     refine wt_does H rfl rfl (fun _ S => (does_field fo_68_0 rfl)) ?_;clear H a;intro a H
     refine wt_does H rfl rfl (fun _ S => does_load one_3 rfl (boxM.rd S (i := 0) rfl rfl)) ?_;clear H a;intro a H
     refine wt_does H rfl rfl (fun _ S => does_sub rfl rfl (by unfold i64ok; omega)) ?_;clear H a;intro a H
     refine wt_does H rfl rfl (fun _ S => does_build bt_68 rfl rfl) ?_;clear H a;intro a H
     refine wt_eff rfl ?_
     refine list_call H rfl rfl Try.func112 rfl rfl (chain_meet (fwd (⟨rates, pwn, ptn, pag⟩ : Part) l (i.toNat + 1)).1 (fwd (⟨rates, pwn, ptn, pag⟩ : Part) l (i.toNat + 1)).2 _ _ _) ?_;clear H a
     rintro _ _ a ⟨rfl, S2⟩ H
     replace S := S.call S2;clear S2
     refine wpList_nil (And.intro (Or.inr (S.sel [0, 1, 2, 3] rfl rfl)) ?_)
     refine wt_does H rfl rfl (fun _ S => does_move rfl) ?_;clear H a;intro a H
     refine wt_does H rfl rfl (fun _ S => does_extract rfl rfl) ?_;clear H a;intro a H
     refine wt_pure H rfl rfl (fun _ => does_extract rfl rfl) ?_;clear H a;intro a H
     refine wt_does H rfl rfl (fun _ S => does_index sl_58 sz_68 rfl rfl (ownM.adr S (i := 2) rfl (by omega)) (by omega) (by omega)) ?_;clear H a;intro a H
     refine wt_eff rfl ?_
     refine list_store_own2 H S (i := 2) (kk := i.toNat) rfl rfl rfl (by omega) sz_68 ?_
     clear H a S;intro _ a S H
     have e9 := wearAt_step (p := (⟨rates, pwn, ptn, pag⟩ : Part)) (l := l) (k := i.toNat) (by omega)
     have e8 : i.toNat + 1 = (i + 1).toNat := by omega
     rw [e8] at e9
     replace S := S.recell (i := 2) rfl (cell' := fcell (fun q => if i - 1 < ((q : Nat) : Int) then wearAt (⟨rates, pwn, ptn, pag⟩ : Part) l q else fwd (⟨rates, pwn, ptn, pag⟩ : Part) l (q + 1))) (fun q j hq hj => by
       unfold fcell; congr 1; (try dsimp only); by_cases h1 : q = i.toNat
       · subst h1; rw [if_pos rfl, if_pos (by omega), e9, e8]
       · rw [if_neg h1]; by_cases h2 : i < (q : Int)
         · rw [if_pos h2, if_pos (by omega)]
         · rw [if_neg h2, if_neg (by omega)])
     refine wpList_nil (And.intro (Or.inl rfl) ?_)
     refine wt_nil ?_
     refine k10 _ _ ?_
     replace H := H.keep [1, 2, 6, 8] rfl
     refine sO H <| sr 1 rfl <| sd (does_sub rfl rfl (by unfold i64ok; omega)) <| sr 1 rfl <| sE ?_;clear H a;intro a H
     exact k7 (g1 - 1) (i - 1) a _ (by omega) (⟨by omega, by omega, by omega⟩) (S.sel [2, 3] rfl rfl) (H.keep [8, 1, 2, 6] rfl)
  refine wp_exit ?_
  refine k5 _ _ ?_
  refine sS H fun K24 k24=>sr 3 rfl <| sE ?_;clear H a;intro a H
  refine k24 _ ?_;clear k24 K24
  refine wp_ret ?_
  refine ret2 (fn := Try.f107) rfl H rfl rfl ?_
  refine .inl ⟨hA, A', c', rfl, ?_⟩
  replace S := S.recell (i := 0) rfl (cell' := fcell (wearAt (⟨rates, pwn, ptn, pag⟩ : Part) l)) (fun q j hq hj => by unfold fcell; congr 1; exact if_pos (by omega))
  exact (S.sel [0] rfl rfl)
 replace H := H.keep [1, 2] rfl
 refine seq_list fun K25 k25 => ?_
 refine ls 2 H <| sd ((does_loadBox agg_62 sz_62 rfl S (i := 0) rfl rfl)) <| sr 1 rfl <| sE ?_;clear H a;intro a H
 refine list_call H rfl rfl Try.func110 rfl rfl (chain_forth rates pwn ptn pag RA rcp l A cp _ (hr.now S) hrn (hl.now S) hn hok) ?_;clear H a
 rintro _ _ a ⟨n, A', c', hn1, rfl, S2⟩ H
 replace S := S.call S2;clear S2
 refine ls 5 H <| sr 5 rfl <| sE ?_;clear H a;intro a H
 refine k25 _ _ ?_;clear k25 K25
 refine wp_seq_k fun K26 k26 => ?_
 try have hnl := hn1.le
 replace H := H.keep [1, 2, 6, 7] rfl
 refine sS H fun K27 k27=>sr 2 rfl <| sL sl_63 rfl <| sr 1 rfl <| sE ?_;clear H a;intro a H
 refine k27 _ ?_;clear k27 K27
 refine condL H rfl (fun hc3 => ?_) (fun hc3 => ?_)
 ·skip
  refine sS H fun K28 k28=>sr 2 rfl <| sE ?_;clear H a;intro a H
  refine k28 _ ?_;clear k28 K28
  refine wp_ret ?_
  refine ret2 (fn := Try.f107) rfl H rfl rfl ?_
  exact .inr ⟨hA, rfl, (S.sel [] rfl rfl)⟩
 exfalso
 have hnn : n = l.length := by omega
 exact hA (hnn ▸ hn1)

end Go.Proofs.Ytopmadlgolnmfaa
