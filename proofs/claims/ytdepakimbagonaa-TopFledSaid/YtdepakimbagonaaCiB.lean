/- CiB. Printed by gen.py. -/
import Derived.Test.YtdepakimbagonaaCiA
namespace Go.Proofs.Ytdepakimbagonaa
open Go.RowKit
set_option linter.unusedVariables false
set_option linter.unusedSimpArgs false
set_option maxRecDepth 100000
set_option maxHeartbeats 4000000


theorem icl_snoc {l : List Int} {x : Int} {v : Value} (hv : v = .int .i64 x) : ∀ k j, k < l.length + 1 → j < 1 → capp l.length (icl l) (fun k' j => ([[v]].getD k' []).getD j undef) k j = icl (l ++ [x]) k j := by
  subst hv
  intro k j hk hj
  unfold capp icl
  by_cases h : k < l.length
  · rw [if_pos h]
    simp only [List.getD_eq_getElem?_getD, List.getElem?_append_left h]
  · rw [if_neg h]
    obtain rfl : k = l.length := by omega
    obtain rfl : j = 0 := by omega
    simp
theorem pwc {h : Nat} (hh : h < 12) : 0 ≤ (1 : Int) * 2 ^ (h : Int).toNat ∧ (1 : Int) * 2 ^ (h : Int).toNat ≤ 2048 := by
  rw [Int.toNat_natCast, Int.one_mul]
  have h8 : 2 ^ h ≤ 2048 := Nat.le_trans (Nat.pow_le_pow_right (by omega) (show h ≤ 11 by omega)) (by decide)
  have e : (2 : Int) ^ h = ((2 ^ h : Nat) : Int) := (Int.natCast_pow 2 h).symm
  rw [e]
  exact ⟨Int.natCast_nonneg _, Int.ofNat_le.2 h8⟩
def wkN (hz : Int) (sw : List Int) (ws : List Wr) (cl : Int) : Nat → List Int
  | 0 => []
  | h + 1 => if wireB sw ws (1 * 2 ^ (h : Int).toNat) cl 0 ws.length (Int.toNat 0) = true then wkN hz sw ws cl h ++ [(h : Int)] else wkN hz sw ws cl h
theorem wkN_len {hz cl : Int} {sw : List Int} {ws : List Wr} : ∀ h, (wkN hz sw ws cl h).length ≤ h := fun h => by
  induction h with
  | zero => exact Nat.le_refl _
  | succ h ih => rw [wkN]; split <;> (try rw [List.length_append, List.length_singleton]) <;> omega
def critN (hz : Int) (sw : List Int) (ws : List Wr) : Nat → List Int
  | 0 => []
  | s + 1 => if 0 < (wkN hz sw ws (1 * 2 ^ (s : Int).toNat) hz.toNat).length then critN hz sw ws s ++ [(s : Int)] else critN hz sw ws s
theorem critN_len {hz : Int} {sw : List Int} {ws : List Wr} : ∀ h, (critN hz sw ws h).length ≤ h := fun h => by
  induction h with
  | zero => exact Nat.le_refl _
  | succ h ih => rw [critN]; split <;> (try rw [List.length_append, List.length_singleton]) <;> omega
theorem one {p : Nat → Prop} (h0 : p 0) : ∀ j, j < 1 → p j := by
  intro j hj
  have : j = 0 := by omega
  subst this
  exact h0
theorem one_vs {sz : Nat} {vs : List Value} (h : ∀ j, j < sz → (vs.getD j undef).oneCell' = true) : ∀ k j, k < 1 → j < sz → (([vs].getD k []).getD j undef).oneCell' = true := by
  intro k j hk hj
  have e : k = 0 := by omega
  subst e
  exact h j hj


theorem cir_weak (hz : Int) (sw : List Int) (SA : Option Addr) (sc : Nat) (ws : List Wr) (QA : Option Addr) (qc : Nat) (OA : Nat → Option Addr) (oc : Nat → Nat) (cl : Int) (w : World) (hsw : InS w noF 1 SA sw.length (icl sw)) (hws : InS w noF 2 QA ws.length (wrcell ws OA oc)) (hof : ∀ k, k < ws.length → InS w noF 1 (OA k) (ws.getD k Wr.zero).of.length (icl (ws.getD k Wr.zero).of)) (V : CirV hz sw ws) (hcl : 0 ≤ cl ∧ cl ≤ 4095) :
    Calls Try.prog 49 [.agg [.int .i64 hz, .slice SA sw.length sc, .slice QA ws.length qc].toArray, .int .i64 cl].toArray w (Ret (fun u w' => ∃ A' c', u = .slice A' (wkN hz sw ws cl hz.toNat).length c' ∧ St w noF [ownM 3 1 A' (wkN hz sw ws cl hz.toNat).length c' (icl (wkN hz sw ws cl hz.toNat))] w')) := by
 have hzb := V.hzb
 have hnw := V.nws
 refine enter Try.func49 rfl Try.ntmps49 rfl (fun a H => ?_)
 have S := St.start w
 refine seq_list fun K1 k1 => ?_
 refine list_box H rfl S rfl rfl ?_;clear H a S;intro b2 _ a hb2 hbw2 S H
 refine ls 1 H <| sr 1 rfl <| sE ?_;clear H a;intro a H
 refine k1 _ _ ?_;clear k1 K1
 refine wp_seq_k fun K2 k2 => ?_
 refine sS H fun K3 k3=>sf fo_85_0 rfl <| sl S 0 one_3 rfl rfl rfl <| sr 1 rfl <| sE ?_;clear H a;intro a H
 refine k3 _ ?_;clear k3 K3
 refine wp_block ?_
 replace S := S.newNil 3 1 (icl [])
 refine loop_st (X := Nat × List Int × Option Addr × Nat) (R0 := _) [1, 2, 7] H rfl (fun ⟨h, L9, A9, c9⟩ => [(4, .slice A9 L9.length c9), (8, .int .i64 (h : Int))]) (fun ⟨h, L9, A9, c9⟩ => [ownM 3 1 A9 L9.length c9 (icl L9)]) (fun g ⟨h, L9, A9, c9⟩ => (h : Int) ≤ hz ∧ (g : Int) + h = hz ∧ L9 = wkN hz sw ws cl h) (hz.toNat) (0, [], none, 0) ?_ (S.sel [0, 1] rfl rfl) (H.keep [4, 8, 1, 2, 7] rfl) ?_
 · exact ⟨by omega, by omega, rfl⟩
 clear H S a
 intro g1 x1 a w1 hp S H K4 k4
 obtain ⟨h, L9, A9, c9⟩ := x1
 dsimp only at hp S H
 refine sS H fun K5 k5=>sr 1 rfl <| sE ?_;clear H a;intro a H
 refine k5 _ ?_;clear k5 K5
 refine wp_seq_k fun K6 k6 => ?_
 refine condL H rfl (fun hc1 => ?_) (fun hc1 => ?_)
 ·skip
  refine wp_skip ?_
  refine k6 _ _ ?_
  refine wp_seq_k fun K7 k7 => ?_
  refine wp_block ?_
  refine sS H fun K8 k8=>sr 2 rfl <| sE ?_;clear H a;intro a H
  refine k8 _ ?_;clear k8 K8
  have hsh := pwc (h := h) (by omega)
  have hL9 : L9.length ≤ h := by rw [hp.2.2]; exact wkN_len h
  replace S := S.drew
  refine seq_wq [(0, true), (1, true), (2, true), (3, true), (4, true), (5, false)] (by kernel_rfl) (by kernel_rfl) (S.sel [0, 1] rfl rfl) fun K9 k9 => ?_
  refine qF H <| qd rfl (fun _ S => (does_loadBox agg_85 sz_85 rfl S (i := 1) rfl rfl)) <| qr 1 rfl <| qd rfl (fun _ S => does_shl rfl rfl (by omega) (by omega) (by unfold i64ok; omega)) <| qr 1 rfl <| qd rfl (fun _ S => does_build bt_153 rfl rfl) <| qK ?_;clear H a;intro a H
  refine wq_eff rfl ?_
  refine list_call H rfl rfl Try.func72 rfl rfl (cir_wire hz sw SA sc ws QA qc OA oc (1 * 2 ^ (h : Int).toNat) cl 0 V (by omega) hcl (by omega) ws.length 0 _ (by omega) (by omega) (hsw.now S) (hws.now S) (fun k hk => (hof k hk).now S)) ?_;clear H a
  rintro _ _ a ⟨rfl, S2⟩ H
  replace S := S.call S2;clear S2
  refine wpList_nil (And.intro (S.sel [0, 1] rfl rfl) ?_)
  refine wq_nil ?_
  refine k9 _ _ ?_
  clear k9 K9
  refine cond_ H rfl (fun hc2 => ?_) (fun hc2 => ?_)
  ·skip
   try simp only [o1,o2,o3,o4,o5,o6,o7,o8,o9,oa] at hc2
   replace H := H.keep [1, 2, 4, 5, 7, 8] rfl
   refine one_list ?_
   refine ls 2 H <| sr 2 rfl <| sE ?_;clear H a;intro a H
   refine list_build' H rfl S sl_25 sz_3 ze_3 rfl rfl rfl rfl rfl rfl rfl rfl rfl ?_;clear H a S;intro A1 _ a hA1 S H
   refine list_append H rfl S sl_25 sz_3 ze_3 by_3 rfl rfl (i := 1) rfl rfl rfl (ownM.inS S (i := 0) rfl) (one_vs (one rfl)) (by omega) (by omega) ?_;clear H a S;intro A2 c2 _ a S H
   replace S := S.recell (i := 1) rfl (cell' := icl (L9 ++ [(h : Int)])) (icl_snoc rfl)
   rw [show L9.length + 1 = (L9 ++ [(h : Int)]).length by simp] at H S
   refine ls 1 H <| sr 1 rfl <| sE ?_;clear H a;intro a H
   refine k7 _ _ ?_
   refine sO H <| sd (does_add rfl rfl (by unfold i64ok; omega)) <| sr 1 rfl <| sE ?_;clear H a;intro a H
   exact k4 (g1 - 1) (h + 1, _, _, _) a _ (by omega) (⟨by omega, by omega, by rw [wkN]; first | rw [if_pos hc2, ← hp.2.2] | rw [if_neg (by simpa using hc2), ← hp.2.2]⟩) (S.sel [1, 2] rfl rfl) (H.keep [4, 8, 1, 2, 7] rfl)
  try simp only [o1,o2,o3,o4,o5,o6,o7,o8,o9,oa] at hc2
  refine wp_skip ?_
  refine k7 _ _ ?_
  refine sO H <| sd (does_add rfl rfl (by unfold i64ok; omega)) <| sr 1 rfl <| sE ?_;clear H a;intro a H
  exact k4 (g1 - 1) (h + 1, _, _, _) a _ (by omega) (⟨by omega, by omega, by rw [wkN]; first | rw [if_pos hc2, ← hp.2.2] | rw [if_neg (by simpa using hc2), ← hp.2.2]⟩) (S.sel [0, 1] rfl rfl) (H.keep [4, 8, 1, 2, 7] rfl)
 refine wp_exit ?_
 refine k2 _ _ ?_
 replace H := H.keep [4] rfl
 refine sS H fun K13 k13=>sr 2 rfl <| sE ?_;clear H a;intro a H
 refine k13 _ ?_;clear k13 K13
 refine wp_ret ?_
 refine ret1 (fn := Try.f49) rfl H rfl ?_
 have hh9 : h = hz.toNat := by omega
 rw [hh9] at hp
 rw [← hp.2.2]
 exact ⟨_, _, rfl, (S.sel [0] rfl rfl)⟩

end Go.Proofs.Ytdepakimbagonaa
