/- ChM. Printed by gen.py. -/
import Derived.Test.YtopmadlgolnmfaaChL
import Derived.Test.YtopmadlgolnmfaaF1
namespace Go.Proofs.Ytopmadlgolnmfaa
open Go.RowKit
set_option linter.unusedVariables false
set_option linter.unusedSimpArgs false
set_option maxRecDepth 100000
set_option maxHeartbeats 4000000


theorem chain_forth (rates : List (Int × Int)) (pwn ptn pag : Int) (RA : Option Addr) (rcp : Nat) (l : List Use) (A : Option Addr) (cp : Nat) (w : World) (hr : InS w noF 2 RA rates.length (scell rates)) (hrn : rates.length ≤ 9223372036854775807) (hl : InS w noF 6 A l.length (ucell l)) (hn : l.length ≤ 9223372036854775807) (hok : PartOk (⟨rates, pwn, ptn, pag⟩ : Part) l) :
    Calls Try.prog 110 [.agg [.slice RA rates.length rcp, .int .i64 pwn, .int .i64 ptn, .int .i64 pag].toArray, .slice A l.length cp].toArray w (Ret (fun v w' => ∃ n A' c', IsAt (⟨rates, pwn, ptn, pag⟩ : Part) l n ∧ v = .tuple #[.slice A' n c', .int .i64 (n : Int)] ∧ St w noF [ownM 68 2 A' n c' (fcell (fun q => fwd (⟨rates, pwn, ptn, pag⟩ : Part) l (q + 1)))] w')) := by
 refine enter Try.func110 rfl Try.ntmps110 rfl (fun a H => ?_)
 have S := St.start w
 refine seq_list fun K1 k1 => ?_
 refine list_box H rfl S rfl rfl ?_;clear H a S;intro b2 _ a hb2 hbw2 S H
 refine ls 2 H <| sr 2 rfl <| sE ?_;clear H a;intro a H
 refine k1 _ _ ?_;clear k1 K1
 refine seq_list fun K2 k2 => ?_
 refine list_alloc H rfl S ze_68 ?_;clear H a S;intro b6 _ a hb6 hbw6 S H
 refine k2 _ _ ?_;clear k2 K2
 refine wp_seq_k fun K3 k3 => ?_
 refine sS H fun K4 k4=>sr 1 rfl <| sL sl_63 rfl <| sr 1 rfl <| sE ?_;clear H a;intro a H
 refine k4 _ ?_;clear k4 K4
 refine wp_block ?_
 replace S := S.newNil 68 2 (fcell (fun q => fwd (⟨rates, pwn, ptn, pag⟩ : Part) l (q + 1)))
 refine loop_st (X := Nat × Option Addr × Nat) (R0 := _) [1, 2, 6, 11, 12] H rfl (fun ⟨k, A', c'⟩ => [(4, .slice A' k c'), (13, .int .i64 (k : Int))]) (fun ⟨k, A', c'⟩ => [boxM b6 68 [.int .i64 (fwd (⟨rates, pwn, ptn, pag⟩ : Part) l k).1, .int .i64 (fwd (⟨rates, pwn, ptn, pag⟩ : Part) l k).2], ownM 68 2 A' k c' (fcell (fun q => fwd (⟨rates, pwn, ptn, pag⟩ : Part) l (q + 1)))]) (fun g ⟨k, A', c'⟩ => k ≤ l.length ∧ g + k = l.length ∧ ∀ q, q < k → fits (⟨rates, pwn, ptn, pag⟩ : Part) l q) (l.length) (0, none, 0) ?_ (S.sel [1, 0, 2] rfl rfl) (H.keep [4, 13, 1, 2, 6, 11, 12] rfl) ?_
 · exact ⟨by omega, by omega, fun q hq => by omega⟩
 clear H S a
 intro g1 x1 a w1 hp S H K5 k5
 obtain ⟨k, A', c'⟩ := x1
 dsimp only at hp S H
 refine sS H fun K6 k6=>sr 1 rfl <| sE ?_;clear H a;intro a H
 refine k6 _ ?_;clear k6 K6
 refine wp_seq_k fun K7 k7 => ?_
 refine condL H rfl (fun hc1 => ?_) (fun hc1 => ?_)
 ·skip
  refine wp_skip ?_
  refine k7 _ _ ?_
  refine wp_seq_k fun K8 k8 => ?_
  refine wp_block ?_
  have hu := hok.use (k := k) (by omega); unfold useOk at hu; simp only [decide_eq_true_eq] at hu
  have hgb := grown_bd hok (k := k) (by omega)
  have hcls : 0 ≤ (l.getD k Use.zero).cls ∧ (l.getD k Use.zero).cls < rates.length := by
    have : ((⟨rates, pwn, ptn, pag⟩ : Part).rates.length : Int) = rates.length := rfl
    omega
  have hll := hok.len
  have hfb := fwd_bd hok k (by omega)
  refine seq_list fun K9 k9 => ?_
  refine ls 3 H <| sr 1 rfl <| si sl_63 sz_72 rfl rfl (hl.adr (by omega)) (by omega) <| sd ((does_loadIn agg_72 sz_72 rfl S hl (by omega) (by omega))) <| sE ?_;clear H a;intro a H
  refine list_alloc H rfl S ze_72 ?_;clear H a S;intro b8 _ a hb8 hbw8 S H
  refine ls 1 H <| sr 1 rfl <| sE ?_;clear H a;intro a H
  refine list_store H S (i := 0) rfl rfl rfl rfl sz_72 rfl rfl ?_
  clear H a S;intro _ a S H
  refine k9 _ _ ?_;clear k9 K9
  replace H := H.keep [1, 2, 4, 6, 7, 8, 11, 12, 13] rfl
  refine seq_list fun K10 k10 => ?_
  refine ls 2 H <| sd ((does_loadBox agg_62 sz_62 rfl S (i := 3) rfl rfl)) <| sd ((does_loadBox agg_72 sz_72 rfl S (i := 0) rfl rfl)) <| sE ?_;clear H a;intro a H
  refine list_call H rfl rfl Try.func111 rfl rfl (chain_grown rates pwn ptn pag RA rcp (l.getD k Use.zero) _ (hr.now S) hrn hcls (by unfold i64ok; omega) (by unfold i64ok; omega)) ?_;clear H a
  rintro _ _ a ⟨rfl, S2⟩ H
  replace S := S.call S2;clear S2
  refine list_alloc H rfl S ze_68 ?_;clear H a S;intro b9 _ a hb9 hbw9 S H
  refine list_store H S (i := 0) rfl rfl rfl rfl sz_68 rfl rfl ?_
  clear H a S;intro _ a S H
  refine k10 _ _ ?_;clear k10 K10
  replace H := H.keep [1, 2, 4, 6, 7, 8, 9, 11, 12, 13] rfl
  refine seq_list fun K11 k11 => ?_
  refine ls 11 H <| sf fo_68_0 rfl <| sl S 2 one_3 rfl rfl rfl <| sf fo_68_0 rfl <| sl S 0 one_3 rfl rfl rfl <| sd (does_add rfl rfl (by unfold i64ok; omega)) <| sf fo_68_1 rfl <| sl S 2 one_3 rfl rfl rfl <| sf fo_68_1 rfl <| sl S 0 one_3 rfl rfl rfl <| sd (does_add rfl rfl (by unfold i64ok; omega)) <| sd (does_build bt_68 rfl rfl) <| sE ?_;clear H a;intro a H
  refine list_store H S (i := 2) rfl rfl rfl rfl sz_68 rfl rfl ?_
  clear H a S;intro _ a S H
  refine k11 _ _ ?_;clear k11 K11
  refine wp_seq_k fun K12 k12 => ?_
  replace H := H.keep [1, 2, 4, 6, 7, 8, 11, 12, 13] rfl
  refine sS H fun K13 k13=>sf fo_72_3 rfl <| sl S 1 one_4 rfl rfl rfl <| sE ?_;clear H a;intro a H
  refine k13 _ ?_;clear k13 K13
  refine cond_ H rfl (fun hc2 => ?_) (fun hc2 => ?_)
  ·skip
   try simp only [o1,o2,o3,o4,o5,o6,o7,o8,o9,oa] at hc2
   refine sS H fun K14 k14=>sr 1 rfl <| sE ?_;clear H a;intro a H
   refine k14 _ ?_;clear k14 K14
   replace H := H.keep [1, 2, 4, 6, 7, 8, 11, 12, 13] rfl
   refine seq_list fun K15 k15 => ?_
   refine ls 3 H <| sd ((does_loadBox agg_68 sz_68 rfl S (i := 2) rfl rfl)) <| sf fo_72_4 rfl <| sd ((does_loadBox agg_68 sz_68 rfl S (i := 1) rfl rfl)) <| sE ?_;clear H a;intro a H
   refine list_call H rfl rfl Try.func112 rfl rfl (chain_meet _ _ _ _ _) ?_;clear H a
   rintro _ _ a ⟨rfl, S2⟩ H
   replace S := S.call S2;clear S2
   refine ls 3 H <| sr 3 rfl <| sE ?_;clear H a;intro a H
   refine list_store H S (i := 2) rfl rfl rfl rfl sz_68 rfl rfl ?_
   clear H a S;intro _ a S H
   refine ls 1 H <| sr 1 rfl <| sE ?_;clear H a;intro a H
   refine k15 _ _ ?_;clear k15 K15
   replace H := H.keep [1, 2, 4, 6, 7, 10, 11, 12, 13] rfl
   refine sS H fun K16 k16=>sr 2 rfl <| sE ?_;clear H a;intro a H
   refine k16 _ ?_;clear k16 K16
   refine cond_ H rfl (fun hc3 => ?_) (fun hc3 => ?_)
   ·skip
    try simp only [o1,o2,o3,o4,o5,o6,o7,o8,o9,oa] at hc3
    refine sS H fun K17 k17=>sr 4 rfl <| sE ?_;clear H a;intro a H
    refine k17 _ ?_;clear k17 K17
    refine wp_ret ?_
    refine ret2 (fn := Try.f110) rfl H rfl rfl ?_
    refine ⟨k, A', c', ⟨by omega, hp.2.2, fun _ hf => ?_⟩, rfl, (S.sel [3] rfl rfl)⟩
    have h9 := hf hc2
    rw [fwd_meas hc2] at h9
    exact absurd h9 (Int.not_le.2 hc3)
   try simp only [o1,o2,o3,o4,o5,o6,o7,o8,o9,oa] at hc3
   refine wp_skip ?_
   refine k12 _ _ ?_
   have e9 := (by first | exact fwd_meas (p := (⟨rates, pwn, ptn, pag⟩ : Part)) hc2 | exact fwd_not (p := (⟨rates, pwn, ptn, pag⟩ : Part)) hc2 : fwd (⟨rates, pwn, ptn, pag⟩ : Part) l (k + 1) = _)
   replace H := H.keep [1, 2, 4, 6, 11, 12, 13] rfl
   refine one_list ?_
   refine ls 2 H <| sr 1 rfl <| sd ((does_loadBox agg_68 sz_68 rfl S (i := 2) rfl rfl)) <| sE ?_;clear H a;intro a H
   refine list_build' H rfl S sl_58 sz_68 ze_68 rfl rfl rfl rfl rfl rfl rfl rfl rfl ?_;clear H a S;intro A1 _ a hA1 S H
   refine list_append H rfl S sl_58 sz_68 ze_68 by_68 rfl rfl (i := 4) rfl rfl rfl (ownM.inS S (i := 0) rfl) (one_vs (two rfl rfl)) (by omega) (by omega) ?_;clear H a S;intro A2 c2 _ a S H
   replace S := S.recell (i := 4) rfl (cell' := fcell (fun q => fwd (⟨rates, pwn, ptn, pag⟩ : Part) l (q + 1))) (capp_one (two (by show _ = Value.int .i64 (fwd (⟨rates, pwn, ptn, pag⟩ : Part) l (k + 1)).1; rw [e9]; rfl) (by show _ = Value.int .i64 (fwd (⟨rates, pwn, ptn, pag⟩ : Part) l (k + 1)).2; rw [e9]; rfl)))
   refine ls 1 H <| sr 1 rfl <| sE ?_;clear H a;intro a H
   refine k8 _ _ ?_
   refine sO H <| sd (does_add rfl rfl (by unfold i64ok; omega)) <| sr 1 rfl <| sE ?_;clear H a;intro a H
   replace S := boxM.same S (i := 3) (cs' := [.int .i64 (fwd (⟨rates, pwn, ptn, pag⟩ : Part) l (k + 1)).1, .int .i64 (fwd (⟨rates, pwn, ptn, pag⟩ : Part) l (k + 1)).2]) rfl (by rw [e9]; rfl)
   exact k5 (g1 - 1) (k + 1, _, _) a _ (by omega) (⟨by omega, by omega, fun q hq => by
     by_cases h : q = k
     · subst h; first | exact fits_not hc2 | (intro _; rw [e9]; exact hc3)
     · exact hp.2.2 q (by omega)⟩) (S.sel [3, 4, 5] rfl rfl) (H.keep [4, 13, 1, 2, 6, 11, 12] rfl)
  try simp only [o1,o2,o3,o4,o5,o6,o7,o8,o9,oa] at hc2
  refine wp_skip ?_
  refine k12 _ _ ?_
  have e9 := (by first | exact fwd_meas (p := (⟨rates, pwn, ptn, pag⟩ : Part)) hc2 | exact fwd_not (p := (⟨rates, pwn, ptn, pag⟩ : Part)) hc2 : fwd (⟨rates, pwn, ptn, pag⟩ : Part) l (k + 1) = _)
  replace H := H.keep [1, 2, 4, 6, 11, 12, 13] rfl
  refine one_list ?_
  refine ls 2 H <| sr 1 rfl <| sd ((does_loadBox agg_68 sz_68 rfl S (i := 2) rfl rfl)) <| sE ?_;clear H a;intro a H
  refine list_build' H rfl S sl_58 sz_68 ze_68 rfl rfl rfl rfl rfl rfl rfl rfl rfl ?_;clear H a S;intro A3 _ a hA3 S H
  refine list_append H rfl S sl_58 sz_68 ze_68 by_68 rfl rfl (i := 4) rfl rfl rfl (ownM.inS S (i := 0) rfl) (one_vs (two rfl rfl)) (by omega) (by omega) ?_;clear H a S;intro A4 c4 _ a S H
  replace S := S.recell (i := 4) rfl (cell' := fcell (fun q => fwd (⟨rates, pwn, ptn, pag⟩ : Part) l (q + 1))) (capp_one (two (by show _ = Value.int .i64 (fwd (⟨rates, pwn, ptn, pag⟩ : Part) l (k + 1)).1; rw [e9]; rfl) (by show _ = Value.int .i64 (fwd (⟨rates, pwn, ptn, pag⟩ : Part) l (k + 1)).2; rw [e9]; rfl)))
  refine ls 1 H <| sr 1 rfl <| sE ?_;clear H a;intro a H
  refine k8 _ _ ?_
  refine sO H <| sd (does_add rfl rfl (by unfold i64ok; omega)) <| sr 1 rfl <| sE ?_;clear H a;intro a H
  replace S := boxM.same S (i := 3) (cs' := [.int .i64 (fwd (⟨rates, pwn, ptn, pag⟩ : Part) l (k + 1)).1, .int .i64 (fwd (⟨rates, pwn, ptn, pag⟩ : Part) l (k + 1)).2]) rfl (by rw [e9]; rfl)
  exact k5 (g1 - 1) (k + 1, _, _) a _ (by omega) (⟨by omega, by omega, fun q hq => by
    by_cases h : q = k
    · subst h; first | exact fits_not hc2 | (intro _; rw [e9]; exact hc3)
    · exact hp.2.2 q (by omega)⟩) (S.sel [3, 4, 5] rfl rfl) (H.keep [4, 13, 1, 2, 6, 11, 12] rfl)
 refine wp_exit ?_
 refine k3 _ _ ?_
 replace H := H.keep [1, 4] rfl
 refine sS H fun K22 k22=>sr 2 rfl <| sL sl_63 rfl <| sr 2 rfl <| sE ?_;clear H a;intro a H
 refine k22 _ ?_;clear k22 K22
 refine wp_ret ?_
 refine ret2 (fn := Try.f110) rfl H rfl rfl ?_
 have hk9 : k = l.length := by omega
 subst hk9
 exact ⟨_, A', c', ⟨Nat.le_refl _, hp.2.2, fun h => absurd h (Nat.lt_irrefl _)⟩, rfl, (S.sel [1] rfl rfl)⟩

end Go.Proofs.Ytopmadlgolnmfaa
