/- ChF. Printed by gen.py. -/
import Derived.Test.YtdepakimbagonaaChE
namespace Go.Proofs.Ytdepakimbagonaa
open Go.RowKit
set_option linter.unusedVariables false
set_option linter.unusedSimpArgs false
set_option maxRecDepth 100000
set_option maxHeartbeats 4000000


/-- Run: the ends, and the error. -/
def runO (c : Chain) (l : List Gauge) (a b : Int) : Int × Int × Int := match wholeO c l (isRunB c a b) with
  | .error e => (0, 0, e)
  | .ok M => (-(M b.toNat a.toNat), M a.toNat b.toNat, 0)
def runV (r : Int × Int × Int) : Value := .tuple #[.agg [.int .i64 r.1, .int .i64 r.2.1].toArray, .int .i64 r.2.2]
def sp2 (lo hi : Nat → Int) (k j : Nat) : Value := if j = 0 then .int .i64 (lo k) else .int .i64 (hi k)
theorem capp_one {k sz : Nat} {cell : Nat → Nat → Value} {vs : List Value} (h : ∀ j, j < sz → vs.getD j undef = cell k j) : ∀ q j, q < k + 1 → j < sz → capp k cell (fun k' j => ([vs].getD k' []).getD j undef) q j = cell q j := by
  intro q j hq hj
  unfold capp
  by_cases h1 : q < k
  · rw [if_pos h1]
  · rw [if_neg h1]
    have e : q = k := by omega
    subst e
    rw [Nat.sub_self]
    exact h j hj
theorem one_vs {sz : Nat} {vs : List Value} (h : ∀ j, j < sz → (vs.getD j undef).oneCell' = true) : ∀ k j, k < 1 → j < sz → (([vs].getD k []).getD j undef).oneCell' = true := by
  intro k j hk hj
  have e : k = 0 := by omega
  subst e
  exact h j hj
theorem two {p : Nat → Prop} (h0 : p 0) (h1 : p 1) : ∀ j, j < 2 → p j := by
  intro j hj
  have : j = 0 ∨ j = 1 := by omega
  rcases this with rfl | rfl
  · exact h0
  · exact h1
theorem one {p : Nat → Prop} (h0 : p 0) : ∀ j, j < 1 → p j := by
  intro j hj
  have : j = 0 := by omega
  subst this
  exact h0
def longTo (M : IM) (many : Nat) : Nat → Int × Int
  | 0 => (0, 0)
  | k + 1 => if k = 0 ∨ (longTo M many k).2 < M k (k + many) then ((k : Int), M k (k + many)) else longTo M many k
def longO (c : Chain) (l : List Gauge) (many : Int) : Int × Int × Int := match wholeO c l (decide (1 ≤ many) && decide (many ≤ c.links)) with
  | .error e => (0, 0, e)
  | .ok M => ((longTo M many.toNat (c.links.toNat + 1 - many.toNat)).1, (longTo M many.toNat (c.links.toNat + 1 - many.toNat)).2, 0)
/-- Links. -/
def linksO (c : Chain) (l : List Gauge) : Except Int IM := wholeO c l true


theorem chain_Run (links pitch limit : Int) (l : List Gauge) (A : Option Addr) (cp : Nat) (xa xb : Int) (w : World) (hl : InS w noF 4 A l.length (gcell l)) (hn : l.length ≤ 9223372036854775807) :
    Calls Try.prog 13 [.agg [.int .i64 links, .int .i64 pitch, .int .i64 limit].toArray, .slice A l.length cp, .int .i64 xa, .int .i64 xb].toArray w (Ret (fun v w' => v = runV (runO (⟨links, pitch, limit⟩ : Chain) l xa xb) ∧ St w noF [] w')) := by
 refine enter Try.func13 rfl Try.ntmps13 rfl (fun a H => ?_)
 have S := St.start w
 refine seq_list fun K1 k1 => ?_
 refine list_box H rfl S rfl rfl ?_;clear H a S;intro b4 _ a hb4 hbw4 S H
 refine list_alloc H rfl S ze_36 ?_;clear H a S;intro b8 _ a hb8 hbw8 S H
 refine ls 1 H <| sr 1 rfl <| sE ?_;clear H a;intro a H
 refine k1 _ _ ?_;clear k1 K1
 rcases hW : wholeO (⟨links, pitch, limit⟩ : Chain) l (isRunB (⟨links, pitch, limit⟩ : Chain) xa xb) with e | M
 ·skip
  have he := wholeO_err hW
  replace H := H.keep [1, 2, 3, 4, 8] rfl
  replace S := S.drew
  refine seq_wq [(0, true), (1, true), (2, true), (3, true), (4, true), (5, false), (6, false), (7, true), (8, true), (9, true), (10, true), (11, true)] (by kernel_rfl) (by kernel_rfl) (S.sel [0, 1] rfl rfl) fun K2 k2 => ?_
  refine qF H <| qd rfl (fun _ S => (does_loadBox agg_23 sz_23 rfl S (i := 1) rfl rfl)) <| qr 1 rfl <| qd rfl (fun _ S => (does_loadBox agg_23 sz_23 rfl S (i := 1) rfl rfl)) <| qr 2 rfl <| qK ?_;clear H a;intro a H
  refine wq_eff rfl ?_
  refine list_call H rfl rfl Try.func34 rfl rfl (chain_isRun links pitch limit xa xb _) ?_;clear H a
  rintro _ _ a ⟨rfl, S2⟩ H
  replace S := S.call S2;clear S2
  refine wpList_nil (And.intro (S.sel [0, 1] rfl rfl) ?_)
  refine wq_eff rfl ?_
  refine list_call H rfl rfl Try.func32 rfl rfl (ret_imp (chain_whole links pitch limit l A cp (isRunB (⟨links, pitch, limit⟩ : Chain) xa xb) _ (hl.now S) hn) (fun _ _ => whole_err hW)) ?_;clear H a
  rintro _ _ a ⟨rfl, S2⟩ H
  replace S := S.call S2;clear S2
  refine wpList_nil (And.intro (S.sel [0, 1] rfl rfl) ?_)
  refine qF H <| qr 5 rfl <| qK ?_;clear H a;intro a H
  refine wq_nil ?_
  refine k2 _ _ ?_
  clear k2 K2
  refine wp_seq_k fun K3 k3 => ?_
  replace H := H.keep [2, 3, 8, 10, 11] rfl
  refine sS H fun K4 k4=>sr 2 rfl <| sE ?_;clear H a;intro a H
  refine k4 _ ?_;clear k4 K4
  refine condN H rfl (fun hc1 => ?_) (fun hc1 => ?_)
  ·skip
   refine seq_list fun K5 k5 => ?_
   refine ls 2 H <| sd (does_build bt_36 rfl rfl) <| sr 1 rfl <| sE ?_;clear H a;intro a H
   refine list_store H S (i := 0) rfl rfl rfl rfl sz_36 rfl rfl ?_
   clear H a S;intro _ a S H
   refine ls 1 H <| sr 1 rfl <| sE ?_;clear H a;intro a H
   refine k5 _ _ ?_;clear k5 K5
   refine wp_ret ?_
   refine retA1 (fn := Try.f13) rfl H rfl agg_36 (by exact sz_36) (boxAgg S (i := 0) rfl) rfl ?_
   exact ⟨by unfold runO; rw [hW]; rfl, (S.sel [] rfl rfl)⟩
  all_goals (exfalso; omega)
 have hG := wholeO_good hW; have hC := hG.2; unfold chainOk at hC; simp only [decide_eq_true_eq] at hC
 obtain ⟨m, rfl⟩ := Int.eq_ofNat_of_zero_le (show 0 ≤ links by omega)
 have hG1 : Good (m + 1) M := hG.1; have hB : bdd (m + 1) 2199023255552 M := hG1.bdd; have hW1 := wholeO_ok hW
 have hAB := hW1.2.1; unfold isRunB at hAB; simp only [Bool.and_eq_true, decide_eq_true_eq] at hAB; obtain ⟨x1, rfl⟩ := Int.eq_ofNat_of_zero_le hAB.1.1; obtain ⟨x2, rfl⟩ := Int.eq_ofNat_of_zero_le (show 0 ≤ xb by omega)
 have hbig : bdd (m + 1) 4611686018427387904 M := fun x y hx hy => by have := hB x y hx hy; omega
 replace H := H.keep [1, 2, 3, 4, 8] rfl
 replace S := S.drew
 refine seq_wq [(0, true), (1, true), (2, true), (3, true), (4, true), (5, false), (6, false), (7, true), (8, true), (9, true), (10, true), (11, true)] (by kernel_rfl) (by kernel_rfl) (S.sel [0, 1] rfl rfl) fun K6 k6 => ?_
 refine qF H <| qd rfl (fun _ S => (does_loadBox agg_23 sz_23 rfl S (i := 1) rfl rfl)) <| qr 1 rfl <| qd rfl (fun _ S => (does_loadBox agg_23 sz_23 rfl S (i := 1) rfl rfl)) <| qr 2 rfl <| qK ?_;clear H a;intro a H
 refine wq_eff rfl ?_
 refine list_call H rfl rfl Try.func34 rfl rfl (chain_isRun m pitch limit x1 x2 _) ?_;clear H a
 rintro _ _ a ⟨rfl, S2⟩ H
 replace S := S.call S2;clear S2
 refine wpList_nil (And.intro (S.sel [0, 1] rfl rfl) ?_)
 refine wq_eff rfl ?_
 refine list_call H rfl rfl Try.func32 rfl rfl (ret_imp (chain_whole m pitch limit l A cp (isRunB ⟨m, pitch, limit⟩ x1 x2) _ (hl.now S) hn) (fun _ _ => whole_ok (n := m + 1) hW)) ?_;clear H a
 rintro _ _ a ⟨W, rb, rc, rfl, S2⟩ H
 replace S := S.call S2;clear S2
 refine wpList_nil (And.intro (S.sel [2, 3] rfl rfl) ?_)
 refine qF H <| qr 5 rfl <| qK ?_;clear H a;intro a H
 refine wq_nil ?_
 refine k6 _ _ ?_
 clear k6 K6
 refine wp_seq_k fun K7 k7 => ?_
 replace H := H.keep [2, 3, 8, 10, 11] rfl
 refine sS H fun K8 k8=>sr 2 rfl <| sE ?_;clear H a;intro a H
 refine k8 _ ?_;clear k8 K8
 refine condN H rfl (fun hc2 => ?_) (fun hc2 => ?_)
 ·skip
  all_goals first | (exfalso; omega) | (simp at hc2)
 refine wp_skip ?_
 refine k7 _ _ ?_
 refine seq_list fun K9 k9 => ?_
 refine ls 3 H <| sr 3 rfl <| sE ?_;clear H a;intro a H
 have S1 := (S.sel [0, 1] rfl rfl)
 refine list_call H rfl rfl Try.func33 rfl rfl (web_span (m + 1) (m + 1) W rb rc (M) x1 x2 _ _ S1.startR (by omega) (by omega) hbig) ?_;clear H a
 rintro _ _ a ⟨rfl, S2⟩ H
 replace S := (S.sel [0, 1, 2, 3] rfl rfl).callR (M := [_, _]) S2; clear S1 S2
 refine list_store H S (i := 2) rfl rfl rfl rfl sz_36 rfl rfl ?_
 clear H a S;intro _ a S H
 refine ls 1 H <| sr 1 rfl <| sE ?_;clear H a;intro a H
 refine k9 _ _ ?_;clear k9 K9
 refine wp_ret ?_
 refine retA1 (fn := Try.f13) rfl H rfl agg_36 (by exact sz_36) (boxAgg S (i := 2) rfl) rfl ?_
 exact ⟨by unfold runO; rw [hW]; rfl, (S.sel [] rfl rfl)⟩

theorem chain_Links (links pitch limit : Int) (l : List Gauge) (A : Option Addr) (cp : Nat) (w : World) (hl : InS w noF 4 A l.length (gcell l)) (hn : l.length ≤ 9223372036854775807) :
    Calls Try.prog 12 [.agg [.int .i64 links, .int .i64 pitch, .int .i64 limit].toArray, .slice A l.length cp].toArray w (Ret (fun v w' => match wholeO (⟨links, pitch, limit⟩ : Chain) l true with | .error e => v = .tuple #[.slice none 0 0, .int .i64 e] ∧ St w noF [] w' | .ok M => ∃ A' c', v = .tuple #[.slice A' links.toNat c', .int .i64 0] ∧ St w noF [ownM 36 2 A' links.toNat c' (sp2 (fun k => -(M (k + 1) k)) (fun k => M k (k + 1)))] w')) := by
 refine enter Try.func12 rfl Try.ntmps12 rfl (fun a H => ?_)
 have S := St.start w
 refine seq_list fun K1 k1 => ?_
 refine list_box H rfl S rfl rfl ?_;clear H a S;intro b2 _ a hb2 hbw2 S H
 refine ls 2 H <| sr 2 rfl <| sE ?_;clear H a;intro a H
 refine k1 _ _ ?_;clear k1 K1
 rcases hW : wholeO (⟨links, pitch, limit⟩ : Chain) l (true) with e | M
 ·skip
  have he := wholeO_err hW
  replace H := H.keep [1, 2] rfl
  refine seq_list fun K2 k2 => ?_
  refine ls 2 H <| sd ((does_loadBox agg_23 sz_23 rfl S (i := 0) rfl rfl)) <| sr 1 rfl <| sE ?_;clear H a;intro a H
  refine list_call H rfl rfl Try.func32 rfl rfl (ret_imp (chain_whole links pitch limit l A cp (true) _ (hl.now S) hn) (fun _ _ => whole_err hW)) ?_;clear H a
  rintro _ _ a ⟨rfl, S2⟩ H
  replace S := S.call S2;clear S2
  refine ls 5 H <| sr 5 rfl <| sE ?_;clear H a;intro a H
  refine k2 _ _ ?_;clear k2 K2
  refine wp_seq_k fun K3 k3 => ?_
  replace H := H.keep [2, 6, 7] rfl
  refine sS H fun K4 k4=>sr 2 rfl <| sE ?_;clear H a;intro a H
  refine k4 _ ?_;clear k4 K4
  refine condN H rfl (fun hc1 => ?_) (fun hc1 => ?_)
  ·skip
   refine sS H fun K5 k5=>sr 3 rfl <| sE ?_;clear H a;intro a H
   refine k5 _ ?_;clear k5 K5
   refine wp_ret ?_
   refine ret2 (fn := Try.f12) rfl H rfl rfl ?_
   exact ⟨rfl, (S.sel [] rfl rfl)⟩
  all_goals (exfalso; omega)
 have hG := wholeO_good hW; have hC := hG.2; unfold chainOk at hC; simp only [decide_eq_true_eq] at hC
 obtain ⟨m, rfl⟩ := Int.eq_ofNat_of_zero_le (show 0 ≤ links by omega)
 have hG1 : Good (m + 1) M := hG.1; have hB : bdd (m + 1) 2199023255552 M := hG1.bdd; have hW1 := wholeO_ok hW
 
 have hbig : bdd (m + 1) 4611686018427387904 M := fun x y hx hy => by have := hB x y hx hy; omega
 replace H := H.keep [1, 2] rfl
 refine seq_list fun K6 k6 => ?_
 refine ls 2 H <| sd ((does_loadBox agg_23 sz_23 rfl S (i := 0) rfl rfl)) <| sr 1 rfl <| sE ?_;clear H a;intro a H
 refine list_call H rfl rfl Try.func32 rfl rfl (ret_imp (chain_whole m pitch limit l A cp (true) _ (hl.now S) hn) (fun _ _ => whole_ok (n := m + 1) hW)) ?_;clear H a
 rintro _ _ a ⟨W, rb, rc, rfl, S2⟩ H
 replace S := S.call S2;clear S2
 refine ls 5 H <| sr 5 rfl <| sE ?_;clear H a;intro a H
 refine k6 _ _ ?_;clear k6 K6
 refine wp_seq_k fun K7 k7 => ?_
 replace H := H.keep [2, 6, 7] rfl
 refine sS H fun K8 k8=>sr 2 rfl <| sE ?_;clear H a;intro a H
 refine k8 _ ?_;clear k8 K8
 refine condN H rfl (fun hc2 => ?_) (fun hc2 => ?_)
 ·skip
  all_goals first | (exfalso; omega) | (simp at hc2)
 refine wp_skip ?_
 refine k7 _ _ ?_
 refine sS H fun K9 k9=>sr 1 rfl <| sE ?_;clear H a;intro a H
 refine k9 _ ?_;clear k9 K9
 refine wp_seq_k fun K10 k10 => ?_
 refine sS H fun K11 k11=>sf fo_23_0 rfl <| sl S 2 one_3 rfl rfl rfl <| sr 1 rfl <| sE ?_;clear H a;intro a H
 refine k11 _ ?_;clear k11 K11
 refine wp_block ?_
 replace S := S.newNil 36 2 (sp2 (fun k => -(M (k + 1) k)) (fun k => M k (k + 1)))
 refine loop_st (X := Nat × Option Addr × Nat) (R0 := _) [6, 20] H rfl (fun ⟨k, A', c'⟩ => [(8, .slice A' k c'), (21, .int .i64 (k : Int))]) (fun ⟨k, A', c'⟩ => [ownM 36 2 A' k c' (sp2 (fun k => -(M (k + 1) k)) (fun k => M k (k + 1)))]) (fun g ⟨k, A', c'⟩ => k ≤ m ∧ g + k = m) (m) (0, none, 0) ?_ (S.sel [0, 1, 2, 3] rfl rfl) (H.keep [8, 21, 6, 20] rfl) ?_
 · exact ⟨by omega, by omega⟩
 clear H S a
 intro g1 x1 a w1 hp S H K12 k12
 obtain ⟨k, A', c'⟩ := x1
 dsimp only at hp S H
 refine sS H fun K13 k13=>sr 1 rfl <| sE ?_;clear H a;intro a H
 refine k13 _ ?_;clear k13 K13
 refine wp_seq_k fun K14 k14 => ?_
 refine condL H rfl (fun hc3 => ?_) (fun hc3 => ?_)
 ·skip
  refine wp_skip ?_
  refine k14 _ _ ?_
  refine wp_seq_k fun K15 k15 => ?_
  refine wp_block ?_
  refine sS H fun K16 k16=>sr 2 rfl <| sE ?_;clear H a;intro a H
  refine k16 _ ?_;clear k16 K16
  replace H := H.keep [6, 8, 9, 20, 21] rfl
  refine one_list ?_
  refine ls 5 H <| sr 4 rfl <| sd (does_add rfl rfl (by unfold i64ok; omega)) <| sE ?_;clear H a;intro a H
  have S1 := (S.sel [1, 2] rfl rfl)
  refine list_call H rfl rfl Try.func33 rfl rfl (web_span (m + 1) (m + 1) W rb rc (M) k (k + 1) _ _ S1.startR (by omega) (by omega) hbig) ?_;clear H a
  rintro _ _ a ⟨rfl, S2⟩ H
  replace S := (S.sel [1, 2, 0, 3] rfl rfl).callR (M := [_, _]) S2; clear S1 S2
  refine list_build' H rfl S sl_42 sz_36 ze_36 rfl rfl rfl rfl rfl rfl rfl rfl rfl ?_;clear H a S;intro A1 _ a hA1 S H
  refine list_append H rfl S sl_42 sz_36 ze_36 by_36 rfl rfl (i := 3) rfl rfl rfl (ownM.inS S (i := 0) rfl) (one_vs (two rfl rfl)) (by omega) (by omega) ?_;clear H a S;intro A2 c2 _ a S H
  replace S := S.recell (i := 3) rfl (capp_one (two rfl rfl))
  refine ls 1 H <| sr 1 rfl <| sE ?_;clear H a;intro a H
  refine k15 _ _ ?_
  replace H := H.keep [6, 8, 20, 21] rfl
  refine sO H <| sd (does_add rfl rfl (by unfold i64ok; omega)) <| sr 1 rfl <| sE ?_;clear H a;intro a H
  exact k12 (g1 - 1) (k + 1, _, _) a _ (by omega) (by omega) (S.sel [3, 1, 2, 4] rfl rfl) (H.keep [8, 21, 6, 20] rfl)
 refine wp_exit ?_
 refine k10 _ _ ?_
 refine sS H fun K19 k19=>sr 3 rfl <| sE ?_;clear H a;intro a H
 refine k19 _ ?_;clear k19 K19
 refine wp_ret ?_
 refine ret2 (fn := Try.f12) rfl H rfl rfl ?_
 have hk9 : m = k := by omega
 subst hk9
 exact ⟨A', c', rfl, (S.sel [0] rfl rfl)⟩

end Go.Proofs.Ytdepakimbagonaa
