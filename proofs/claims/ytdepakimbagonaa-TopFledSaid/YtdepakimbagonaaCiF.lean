/- CiF. Printed by gen.py. -/
import Derived.Test.YtdepakimbagonaaCiE
namespace Go.Proofs.Ytdepakimbagonaa
open Go.RowKit
set_option linter.unusedVariables false
set_option linter.unusedSimpArgs false
set_option maxRecDepth 100000
set_option maxHeartbeats 4000000


theorem cir_ofn {hz : Int} {sw : List Int} {ws : List Wr} (V : CirV hz sw ws) : ∀ k, k < ws.length → (ws.getD k Wr.zero).of.length ≤ 9223372036854775807 := fun k hk => by
  by_cases h : (ws.getD k Wr.zero).kind = 1
  · have := V.one k hk h; omega
  · have := V.more k hk h; omega
def hasC (l : List Int) (x : Int) : Bool := l.any fun y => decide (x = y)
theorem hasC_take {l : List Int} {x : Int} {k : Nat} (hk : k < l.length) (h : (l.take k).any (fun y => decide (x = y)) = false) (hx : ¬ x = l.getD k 0) : (l.take (k + 1)).any (fun y => decide (x = y)) = false := by
  rw [List.take_succ_eq_append_getElem hk, List.any_append, h]
  rw [List.getD_eq_getElem?_getD, List.getElem?_eq_getElem hk] at hx
  simpa using hx
theorem hasC_at {l : List Int} {x : Int} {k : Nat} (hk : k < l.length) (hx : x = l.getD k 0) : hasC l x = true := by
  rw [List.getD_eq_getElem?_getD, List.getElem?_eq_getElem hk] at hx
  unfold hasC
  rw [List.any_eq_true]
  exact ⟨l[k], List.getElem_mem hk, by simpa using hx⟩
def lorI (a b : Int) : Int := ((a.toNat ||| b.toNat : Nat) : Int)
theorem lorI_bd {a b : Int} (ha : 0 ≤ a ∧ a ≤ 2048) (hb : 0 ≤ b ∧ b ≤ 2048) : 0 ≤ lorI a b ∧ lorI a b ≤ 4095 := by
  have := Nat.or_lt_two_pow (x := a.toNat) (y := b.toNat) (n := 12) (by omega) (by omega)
  unfold lorI
  omega
section
variable {P : Program} {L : List (Nat × Value)} {w : World} {d : Option Nat} {ty : TypeId} {pos : String} {af : Array Edge} {g : Option (Nat × Bool)}
theorem does_lor {x y : Operand} {xt yt : TypeId} {m k : Int} (hx : ev L x = some (.int .i64 m)) (hy : ev L y = some (.int .i64 k)) (hm : 0 ≤ m ∧ m ≤ 2048) (hk : 0 ≤ k ∧ k ≤ 2048) :
    Does P L ⟨d, .binOp .or xt x y yt, ty, pos, af, g⟩ w (.int .i64 (lorI m k)) := fun ρ hρ => by
  have hb := lorI_bd hm hk
  obtain ⟨m, rfl⟩ : ∃ n : Nat, m = n := ⟨m.toNat, by omega⟩
  obtain ⟨k, rfl⟩ : ∃ n : Nat, k = n := ⟨k.toNat, by omega⟩
  have e0 : ((BitVec.ofInt 64 (m : Int) ||| BitVec.ofInt 64 (k : Int)).toNat) = m ||| k := by
    rw [BitVec.toNat_or, BitVec.ofInt_natCast, BitVec.ofInt_natCast, BitVec.toNat_ofNat, BitVec.toNat_ofNat, Nat.mod_eq_of_lt (by omega), Nat.mod_eq_of_lt (by omega)]
  have e1 : IntKind.i64.wrap ((BitVec.ofInt 64 (m : Int) ||| BitVec.ofInt 64 (k : Int)).toNat : Int) = ((m ||| k : Nat) : Int) := by
    rw [e0]; unfold lorI at hb; rw [Int.toNat_natCast, Int.toNat_natCast] at hb; exact i64ok.eq ⟨by omega, by omega⟩
  have e : Op.intBits .or .i64 (m : Int) (k : Int) = pure (.int .i64 (lorI m k)) := by
    unfold lorI
    rw [Int.toNat_natCast, Int.toNat_natCast]
    exact congrArg (fun z => (pure (Value.int .i64 z) : Sem Value)) e1
  simp [execOp, hρ _ _ hx, hρ _ _ hy, eqGuard, binOp, e]
end
def pairB (hz : Int) (sw : List Int) (ws : List Wr) (al : List Int) (a b : Int) : Bool := (!hasC al a && !hasC al b) && decide (0 < (wkN hz sw ws (lorI (1 * 2 ^ a.toNat) (1 * 2 ^ b.toNat)) hz.toNat).length)
def pcIn (hz : Int) (sw : List Int) (ws : List Wr) (al : List Int) (a : Nat) : Nat → Nat
  | 0 => 0
  | q + 1 => if pairB hz sw ws al (a : Int) ((a : Int) + 1 + (q : Int)) = true then pcIn hz sw ws al a q + 1 else pcIn hz sw ws al a q
def pcOut (hz : Int) (sw : List Int) (ws : List Wr) (al : List Int) : Nat → Nat
  | 0 => 0
  | a + 1 => pcOut hz sw ws al a + pcIn hz sw ws al a (sw.length - (a + 1))
theorem pcIn_le {hz : Int} {sw : List Int} {ws : List Wr} {al : List Int} {a : Nat} : ∀ q, pcIn hz sw ws al a q ≤ q := fun q => by
  induction q with
  | zero => exact Nat.le_refl _
  | succ q ih => rw [pcIn]; split <;> omega
theorem pcOut_le {hz : Int} {sw : List Int} {ws : List Wr} {al : List Int} : ∀ a, pcOut hz sw ws al a ≤ a * sw.length := fun a => by
  induction a with
  | zero => exact Nat.zero_le _
  | succ a ih =>
    have := pcIn_le (hz := hz) (sw := sw) (ws := ws) (al := al) (a := a) (sw.length - (a + 1))
    rw [pcOut, Nat.succ_mul]; omega


theorem cir_Index (l : List Int) (A : Option Addr) (cp : Nat) (x : Int) (w : World) (hl : InS w noF 1 A l.length (icl l)) (hn : l.length ≤ 9223372036854775807) :
    Calls Try.prog 71 [.slice A l.length cp, .int .i64 x].toArray w (Ret (fun u w' => ∃ n : Int, u = .int .i64 n ∧ decide (0 ≤ n) = hasC l x ∧ St w noF [] w')) := by
 refine enter Try.func71 rfl Try.ntmps71 rfl (fun a H => ?_)
 have S := St.start w
 refine sS H fun K1 k1=>sr 1 rfl <| sE ?_;clear H a;intro a H
 refine k1 _ ?_;clear k1 K1
 refine wp_seq_k fun K2 k2 => ?_
 refine sS H fun K3 k3=>sr 1 rfl <| sL sl_25 rfl <| sr 1 rfl <| sE ?_;clear H a;intro a H
 refine k3 _ ?_;clear k3 K3
 refine wp_block ?_
 refine loop_st (X := Nat) (R0 := _) [0, 1, 7] H rfl (fun k => [(8, .int .i64 (k : Int))]) (fun k => []) (fun g k => k ≤ l.length ∧ g + k = l.length ∧ (l.take k).any (fun y => decide (x = y)) = false) (l.length) 0 ?_ (S.sel [] rfl rfl) (H.keep [8, 0, 1, 7] rfl) ?_
 · exact ⟨by omega, by omega, rfl⟩
 clear H S a
 intro g1 x1 a w1 hp S H K4 k4
 obtain ⟨k, rfl⟩ : ∃ y, y = x1 := ⟨_, rfl⟩
 refine sS H fun K5 k5=>sr 1 rfl <| sE ?_;clear H a;intro a H
 refine k5 _ ?_;clear k5 K5
 refine wp_seq_k fun K6 k6 => ?_
 refine condL H rfl (fun hc1 => ?_) (fun hc1 => ?_)
 ·skip
  refine wp_skip ?_
  refine k6 _ _ ?_
  refine wp_seq_k fun K7 k7 => ?_
  refine wp_block ?_
  refine sS H fun K8 k8=>sr 2 rfl <| sE ?_;clear H a;intro a H
  refine k8 _ ?_;clear k8 K8
  refine sS H fun K9 k9=>sr 3 rfl <| si sl_25 sz_3 rfl rfl (hl.adr (by omega)) (by omega) <| slm one_3 rfl (hl.rd S (by omega) (by omega)) <| sr 1 rfl <| sE ?_;clear H a;intro a H
  refine k9 _ ?_;clear k9 K9
  refine condE H rfl (fun hc2 => ?_) (fun hc2 => ?_)
  ·skip
   replace H := H.keep [5] rfl
   refine sS H fun K10 k10=>sr 2 rfl <| sE ?_;clear H a;intro a H
   refine k10 _ ?_;clear k10 K10
   refine wp_ret ?_
   refine ret1 (fn := Try.f71) rfl H rfl ?_
   exact ⟨_, rfl, by rw [hasC_at (k := k) (by omega) hc2]; exact decide_eq_true (by omega), (S.sel [] rfl rfl)⟩
  refine wp_skip ?_
  refine k7 _ _ ?_
  refine sO H <| sd (does_add rfl rfl (by unfold i64ok; omega)) <| sr 1 rfl <| sE ?_;clear H a;intro a H
  exact k4 (g1 - 1) (k + 1) a _ (by omega) (⟨by omega, by omega, hasC_take (by omega) hp.2.2 hc2⟩) (S.sel [] rfl rfl) (H.keep [8, 0, 1, 7] rfl)
 refine wp_exit ?_
 refine k2 _ _ ?_
 refine sS H fun K12 k12=>sr 1 rfl <| sE ?_;clear H a;intro a H
 refine k12 _ ?_;clear k12 K12
 refine wp_ret ?_
 refine ret1 (fn := Try.f71) rfl H rfl ?_
 exact ⟨_, rfl, by unfold hasC; rw [← List.take_of_length_le (l := l) (i := k) (by omega), hp.2.2]; rfl, (S.sel [] rfl rfl)⟩

theorem cir_Contains (l : List Int) (A : Option Addr) (cp : Nat) (x : Int) (w : World) (hl : InS w noF 1 A l.length (icl l)) (hn : l.length ≤ 9223372036854775807) :
    Calls Try.prog 48 [.slice A l.length cp, .int .i64 x].toArray w (Ret (fun u w' => u = .bool (hasC l x) ∧ St w noF [] w')) := by
 refine enter Try.func48 rfl Try.ntmps48 rfl (fun a H => ?_)
 have S := St.start w
 refine sS H fun K1 k1=>sr 1 rfl <| sE ?_;clear H a;intro a H
 refine k1 _ ?_;clear k1 K1
 refine seq_list fun K2 k2 => ?_
 refine ls 2 H <| sr 2 rfl <| sE ?_;clear H a;intro a H
 refine list_call H rfl rfl Try.func71 rfl rfl (cir_Index l A cp x _ (hl.now S) hn) ?_;clear H a
 rintro _ _ a ⟨n, rfl, hn2, S2⟩ H
 replace S := S.call S2;clear S2
 refine ls 2 H <| sr 2 rfl <| sE ?_;clear H a;intro a H
 refine k2 _ _ ?_;clear k2 K2
 refine wp_ret ?_
 refine ret1 (fn := Try.f48) rfl H rfl ?_
 exact ⟨congrArg Value.bool hn2, (S.sel [] rfl rfl)⟩

theorem cir_Critical (hz : Int) (sw : List Int) (SA : Option Addr) (sc : Nat) (ws : List Wr) (QA : Option Addr) (qc : Nat) (OA : Nat → Option Addr) (oc : Nat → Nat) (w : World) (hsw : InS w noF 1 SA sw.length (icl sw)) (hws : InS w noF 2 QA ws.length (wrcell ws OA oc)) (hof : ∀ k, k < ws.length → InS w noF 1 (OA k) (ws.getD k Wr.zero).of.length (icl (ws.getD k Wr.zero).of)) (hE : circE hz sw ws = 0) :
    Calls Try.prog 47 [.agg [.int .i64 hz, .slice SA sw.length sc, .slice QA ws.length qc].toArray].toArray w (Ret (fun u w' => ∃ A' c', u = .tuple #[.slice A' (critN hz sw ws sw.length).length c', .int .i64 0] ∧ St w noF [ownM 3 1 A' (critN hz sw ws sw.length).length c' (icl (critN hz sw ws sw.length))] w')) := by
 have V := circ_valid (circ_ok hE)
 have hns := V.nsw
 have hnw := V.nws
 have hzb := V.hzb
 have hof9 := cir_ofn V
 refine enter Try.func47 rfl Try.ntmps47 rfl (fun a H => ?_)
 have S := St.start w
 refine seq_list fun K1 k1 => ?_
 refine list_box H rfl S rfl rfl ?_;clear H a S;intro b1 _ a hb1 hbw1 S H
 refine ls 2 H <| sr 2 rfl <| sE ?_;clear H a;intro a H
 refine k1 _ _ ?_;clear k1 K1
 refine wp_seq_k fun K2 k2 => ?_
 refine seq_list fun K3 k3 => ?_
 refine ls 1 H <| sd ((does_loadBox agg_85 sz_85 rfl S (i := 0) rfl rfl)) <| sE ?_;clear H a;intro a H
 refine list_call H rfl rfl Try.func70 rfl rfl (cir_Check hz sw SA sc ws QA qc OA oc _ (hsw.now S) (hws.now S) (fun k hk => (hof k hk).now S) (by omega) (by omega) hof9) ?_;clear H a
 rintro _ _ a ⟨rfl, S2⟩ H
 replace S := S.call S2;clear S2
 refine ls 1 H <| sr 1 rfl <| sE ?_;clear H a;intro a H
 refine k3 _ _ ?_;clear k3 K3
 refine sS H fun K4 k4=>sr 2 rfl <| sE ?_;clear H a;intro a H
 refine k4 _ ?_;clear k4 K4
 refine condN H rfl (fun hc1 => ?_) (fun hc1 => ?_)
 ·skip
  replace H := H.keep [4] rfl
  refine sS H fun K5 k5=>sr 3 rfl <| sE ?_;clear H a;intro a H
  refine k5 _ ?_;clear k5 K5
  refine wp_ret ?_
  refine ret2 (fn := Try.f47) rfl H rfl rfl ?_
  exact absurd hE hc1
 refine wp_skip ?_
 refine k2 _ _ ?_
 refine sS H fun K6 k6=>sr 1 rfl <| sE ?_;clear H a;intro a H
 refine k6 _ ?_;clear k6 K6
 refine wp_seq_k fun K7 k7 => ?_
 refine sS H fun K8 k8=>sf fo_85_1 rfl <| sl S 0 one_25 rfl rfl rfl <| sL sl_25 rfl <| sr 1 rfl <| sE ?_;clear H a;intro a H
 refine k8 _ ?_;clear k8 K8
 refine wp_block ?_
 replace S := S.newNil 3 1 (icl [])
 refine loop_st (X := Nat × List Int × Option Addr × Nat) (R0 := _) [1, 14] H rfl (fun ⟨k, L9, A9, c9⟩ => [(5, .slice A9 L9.length c9), (15, .int .i64 (k : Int))]) (fun ⟨k, L9, A9, c9⟩ => [ownM 3 1 A9 L9.length c9 (icl L9)]) (fun g ⟨k, L9, A9, c9⟩ => k ≤ sw.length ∧ g + k = sw.length ∧ L9 = critN hz sw ws k) (sw.length) (0, [], none, 0) ?_ (S.sel [0, 1] rfl rfl) (H.keep [5, 15, 1, 14] rfl) ?_
 · exact ⟨by omega, by omega, rfl⟩
 clear H S a
 intro g1 x1 a w1 hp S H K9 k9
 obtain ⟨k, L9, A9, c9⟩ := x1
 dsimp only at hp S H
 refine sS H fun K10 k10=>sr 1 rfl <| sE ?_;clear H a;intro a H
 refine k10 _ ?_;clear k10 K10
 refine wp_seq_k fun K11 k11 => ?_
 refine condL H rfl (fun hc2 => ?_) (fun hc2 => ?_)
 ·skip
  refine wp_skip ?_
  refine k11 _ _ ?_
  refine wp_seq_k fun K12 k12 => ?_
  refine wp_block ?_
  refine sS H fun K13 k13=>sr 2 rfl <| sE ?_;clear H a;intro a H
  refine k13 _ ?_;clear k13 K13
  have hsh := pwc (h := k) (by omega)
  have hL9 : L9.length ≤ k := by rw [hp.2.2]; exact critN_len k
  replace S := S.drew
  refine seq_wq [(0, true), (1, true), (2, true), (3, false), (4, true), (5, true)] (by kernel_rfl) (by kernel_rfl) (S.sel [0, 1] rfl rfl) fun K14 k14 => ?_
  refine qF H <| qd rfl (fun _ S => (does_loadBox agg_85 sz_85 rfl S (i := 1) rfl rfl)) <| qr 1 rfl <| qd rfl (fun _ S => does_shl rfl rfl (by omega) (by omega) (by unfold i64ok; omega)) <| qK ?_;clear H a;intro a H
  refine wq_eff rfl ?_
  refine list_call H rfl rfl Try.func49 rfl rfl (cir_weak hz sw SA sc ws QA qc OA oc (1 * 2 ^ (k : Int).toNat) _ (hsw.now S) (hws.now S) (fun k hk => (hof k hk).now S) V (by omega)) ?_;clear H a
  rintro _ _ a ⟨A5, c5, rfl, S2⟩ H
  replace S := S.call S2;clear S2
  refine wpList_nil (And.intro (S.sel [1, 2] rfl rfl) ?_)
  refine qF H <| qd rfl (fun _ S => does_len sl_25 rfl) <| qr 1 rfl <| qK ?_;clear H a;intro a H
  refine wq_nil ?_
  refine k14 _ _ ?_
  clear k14 K14
  refine condL H rfl (fun hc3 => ?_) (fun hc3 => ?_)
  ·skip
   replace H := H.keep [1, 5, 6, 14, 15] rfl
   refine one_list ?_
   refine ls 2 H <| sr 2 rfl <| sE ?_;clear H a;intro a H
   refine list_build' H rfl S sl_25 sz_3 ze_3 rfl rfl rfl rfl rfl rfl rfl rfl rfl ?_;clear H a S;intro A1 _ a hA1 S H
   refine list_append H rfl S sl_25 sz_3 ze_3 by_3 rfl rfl (i := 2) rfl rfl rfl (ownM.inS S (i := 0) rfl) (one_vs (one rfl)) (by omega) (by omega) ?_;clear H a S;intro A2 c2 _ a S H
   replace S := S.recell (i := 2) rfl (cell' := icl (L9 ++ [(k : Int)])) (icl_snoc rfl)
   rw [show L9.length + 1 = (L9 ++ [(k : Int)]).length by simp] at H S
   refine ls 1 H <| sr 1 rfl <| sE ?_;clear H a;intro a H
   refine k12 _ _ ?_
   refine sO H <| sd (does_add rfl rfl (by unfold i64ok; omega)) <| sr 1 rfl <| sE ?_;clear H a;intro a H
   exact k9 (g1 - 1) (k + 1, _, _, _) a _ (by omega) (⟨by omega, by omega, by rw [critN]; first | rw [if_pos (by omega), ← hp.2.2] | rw [if_neg (by omega), ← hp.2.2]⟩) (S.sel [2, 3] rfl rfl) (H.keep [5, 15, 1, 14] rfl)
  refine wp_skip ?_
  refine k12 _ _ ?_
  refine sO H <| sd (does_add rfl rfl (by unfold i64ok; omega)) <| sr 1 rfl <| sE ?_;clear H a;intro a H
  exact k9 (g1 - 1) (k + 1, _, _, _) a _ (by omega) (⟨by omega, by omega, by rw [critN]; first | rw [if_pos (by omega), ← hp.2.2] | rw [if_neg (by omega), ← hp.2.2]⟩) (S.sel [1, 2] rfl rfl) (H.keep [5, 15, 1, 14] rfl)
 refine wp_exit ?_
 refine k7 _ _ ?_
 replace H := H.keep [5] rfl
 refine sS H fun K18 k18=>sr 3 rfl <| sE ?_;clear H a;intro a H
 refine k18 _ ?_;clear k18 K18
 refine wp_ret ?_
 refine ret2 (fn := Try.f47) rfl H rfl rfl ?_
 obtain rfl : k = sw.length := by omega
 rw [← hp.2.2]
 exact ⟨_, _, rfl, (S.sel [0] rfl rfl)⟩

end Go.Proofs.Ytdepakimbagonaa
