/- WyB. Printed by gen.py. -/
import Derived.Test.YtopmadlgolnmfaaWyA
namespace Go.Proofs.Ytopmadlgolnmfaa
open Go.RowKit
set_option linter.unusedVariables false
set_option linter.unusedSimpArgs false
set_option maxRecDepth 100000
set_option maxHeartbeats 4000000


theorem edge_cells {N : Net} {r : RM} {mv : Nat → Nat → Mv} {p q : Nat} {v : Int} : ∀ i k j, k < N.n i → j < 7 → upd (edgeC N r mv) p (cput (edgeC N r mv p) q (0 + 1) (.int .i64 v)) i k j = edgeC N (put2 r p q v) mv i k j := by
  intro i k j _ _
  rw [show (0 + 1 : Nat) = 1 from rfl, edgeC_put]
theorem ncl_cells {n : Nat → Nat} {p v : Nat} {x : Int} (h : x = (v : Int)) : ∀ k j, j < 1 → cput (ncl n) p 0 (.int .i64 x) k j = ncl (upd n p v) k j := by
  intro k j hj
  have : j = 0 := by omega
  subst this
  rw [ncl_put h]
  exact if_pos rfl
theorem PushI.same {N : Net} {L : Nat → Int} {x u : Nat} {r r1 : RM} {nx nx1 : Nat → Nat} {j : Nat} (I : PushI N L x u r nx 0 r1 nx1) (hu : u < N.k) (hj : j < N.n u) (h : ¬ (0 < r1 u j ∧ L (N.to u j) = L u + 1)) (hr : 0 < r u j) (hl : L (N.to u j) = L u + 1) : False := by
  have := (I.zero rfl).1 u hu j hj
  exact h ⟨by omega, hl⟩
/-- All pushes from nodes of higher levels. -/
def PushC (N : Net) (mv : Nat → Nat → Mv) (nb : Nat) (pl tk : Int) (st1 st2 : Value) (EA : Option Addr) (A : Nat → Option Addr) (c : Nat → Nat) (b x : Nat) (L : Nat → Int) (LA : Option Addr) (lc : Nat) (NA : Option Addr) (d : Int) : Prop :=
  ∀ (u : Nat) (most : Int) (r : RM) (nx : Nat → Nat) (w : World) (F : Nat → Prop) (S : St w F [boxM nb 157 [.int .i64 pl, st1, st2, .int .i64 tk, .slice EA N.k N.k, .int .i64 (b : Int), .int .i64 (x : Int)], ownM 175 1 EA N.k N.k (hdc A N.n c), ragM 177 7 (fun q => q < N.k) A N.n c (edgeC N r mv), ownM 3 1 NA N.k N.k (ncl nx)] w) (hl : InS w F 1 LA N.k (lcl L)) (hO : Ok N r 2199023255552) (hn : ∀ i, i < N.k → nx i ≤ N.n i) (hu : u < N.k) (hm : 0 ≤ most ∧ most ≤ 2199023255552) (_ : d ≤ L u), Calls Try.prog 93 [.pointer (some ⟨nb, 0, none⟩), .int .i64 (u : Int), .int .i64 most, .slice LA N.k lc, .slice NA N.k N.k].toArray w (Ret (fun v w' => ∃ m r' nx', v = .int .i64 m ∧ PushR N L x u r nx most m r' nx' ∧ St w F [boxM nb 157 [.int .i64 pl, st1, st2, .int .i64 tk, .slice EA N.k N.k, .int .i64 (b : Int), .int .i64 (x : Int)], ownM 175 1 EA N.k N.k (hdc A N.n c), ragM 177 7 (fun q => q < N.k) A N.n c (edgeC N r' mv), ownM 3 1 NA N.k N.k (ncl nx')] w'))


theorem push_step (N : Net) (r : RM) (mv : Nat → Nat → Mv) (nb : Nat) (pl tk : Int) (st1 st2 : Value) (EA : Option Addr) (A : Nat → Option Addr) (c : Nat → Nat) (b x : Nat) (L : Nat → Int) (LA : Option Addr) (lc : Nat) (NA : Option Addr) (d : Int) (u : Nat) (most : Int) (nx : Nat → Nat) (W : N.Wf) (hb : b < N.k) (hx : x < N.k) (hk : N.k ≤ 1000000) (hL : ∀ v, v < N.k → -1 ≤ L v ∧ L v < N.k) (w : World) (F : Nat → Prop) (S : St w F [boxM nb 157 [.int .i64 pl, st1, st2, .int .i64 tk, .slice EA N.k N.k, .int .i64 (b : Int), .int .i64 (x : Int)], ownM 175 1 EA N.k N.k (hdc A N.n c), ragM 177 7 (fun q => q < N.k) A N.n c (edgeC N r mv), ownM 3 1 NA N.k N.k (ncl nx)] w) (hl : InS w F 1 LA N.k (lcl L)) (hO : Ok N r 2199023255552) (hn : ∀ i, i < N.k → nx i ≤ N.n i) (hu : u < N.k) (hm : 0 ≤ most ∧ most ≤ 2199023255552) (hd : d ≤ L u + 1) (ih : PushC N mv nb pl tk st1 st2 EA A c b x L LA lc NA d) :
    Calls Try.prog 93 [.pointer (some ⟨nb, 0, none⟩), .int .i64 (u : Int), .int .i64 most, .slice LA N.k lc, .slice NA N.k N.k].toArray w (Ret (fun v w' => ∃ m r' nx', v = .int .i64 m ∧ PushR N L x u r nx most m r' nx' ∧ St w F [boxM nb 157 [.int .i64 pl, st1, st2, .int .i64 tk, .slice EA N.k N.k, .int .i64 (b : Int), .int .i64 (x : Int)], ownM 175 1 EA N.k N.k (hdc A N.n c), ragM 177 7 (fun q => q < N.k) A N.n c (edgeC N r' mv), ownM 3 1 NA N.k N.k (ncl nx')] w')) := by
 refine enter Try.func93 rfl Try.ntmps93 rfl (fun a H => ?_)
 skip
 refine sS H fun K1 k1=>sr 1 rfl <| sE ?_;clear H a;intro a H
 refine k1 _ ?_;clear k1 K1
 refine wp_seq_k fun K2 k2 => ?_
 refine sS H fun K3 k3=>sr 3 rfl <| sf fo_157_4 rfl <| sl S 0 one_3 rfl rfl rfl <| sr 1 rfl <| sE ?_;clear H a;intro a H
 refine k3 _ ?_;clear k3 K3
 refine condE H rfl (fun hc1 => ?_) (fun hc1 => ?_)
 ·skip
  refine sS H fun K4 k4=>sr 2 rfl <| sE ?_;clear H a;intro a H
  refine k4 _ ?_;clear k4 K4
  refine wp_ret ?_
  refine ret1 (fn := Try.f93) rfl H rfl ?_
  have hux : u = x := by omega
  subst hux
  exact ⟨_, r, nx, rfl, PushR.here hO hn hm.1, (S.sel [0, 1, 2, 3] rfl rfl)⟩
 refine wp_skip ?_
 refine k2 _ _ ?_
 replace H := H.keep [0, 1, 2, 3, 4] rfl
 refine sS H fun K5 k5=>sr 1 rfl <| sE ?_;clear H a;intro a H
 refine k5 _ ?_;clear k5 K5
 refine wp_seq_k fun K6 k6 => ?_
 refine wp_block ?_
 refine loop_st (X := Int × RM × (Nat → Nat)) (R0 := _) [0, 1, 2, 3, 4] H rfl (fun ⟨sent, r1, nx1⟩ => [(11, .int .i64 sent)]) (fun ⟨sent, r1, nx1⟩ => [ragM 177 7 (fun q => q < N.k) A N.n c (edgeC N r1 mv), ownM 3 1 NA N.k N.k (ncl nx1)]) (fun g ⟨sent, r1, nx1⟩ => PushI N L x u r nx sent r1 nx1 ∧ 0 ≤ sent ∧ sent ≤ most ∧ g + nx1 u = N.n u) (N.n u - nx u) (0, r, nx) ?_ (S.sel [2, 3, 0, 1] rfl rfl) (H.keep [11, 0, 1, 2, 3, 4] rfl) ?_
 · exact ⟨PushI.start hO hn, by omega, by omega, by have := hn u hu; omega⟩
 clear H S a
 intro g1 x1 a w1 hp S H K7 k7
 obtain ⟨sent, r1, nx1⟩ := x1
 dsimp only at hp S H
 obtain ⟨hI, h0s, hsm, hgj⟩ := hp
 have hO1 := hI.fl.ok hO
 have hxn := (hI.nxl u hu).2
 refine wp_seq_k fun K8 k8 => ?_
 replace H := H.keep [0, 1, 2, 3, 4, 11] rfl
 replace S := S.drew
 refine sD H fun K9 k9=>sr 2 rfl <| si sl_23 sz_3 rfl rfl (ownM.adr S (i := 1) rfl (by omega)) (by omega) <| slm one_3 rfl (ownM.rd S (i := 1) rfl (by omega) (by omega)) <| sr 2 rfl <| sf fo_157_2 rfl <| sl S 2 one_155 rfl rfl rfl <| sr 1 rfl <| si sl_155 sz_175 rfl rfl (ownM.adr S (i := 3) rfl (by omega)) (by omega) <| slm one_175 rfl (ownM.rd S (i := 3) rfl (by omega) (by omega)) <| sL sl_175 rfl <| sr 1 rfl <| sE ?_;clear H a;intro a H
 refine k9 _ ?_;clear k9 K9
 refine condL H rfl (fun hc2 => ?_) (fun hc2 => ?_)
 ·skip
  refine wp_skip ?_
  refine k8 _ _ ?_
  refine wp_seq_k fun K10 k10 => ?_
  refine wp_block ?_
  obtain ⟨j, hjd⟩ : ∃ j, j = nx1 u := ⟨_, rfl⟩
  have hjn : j < N.n u := by omega
  have htk := W.to_lt u hu j hjn
  have hbk := W.bk_lt u hu j hjn
  have hru0 := hO1.nn u hu j hjn; have hrl0 := hO1.le W hu hjn
  have hLu := hL u hu; have hLt := hL _ htk
  have hnl := ragM.le S (i := 0) rfl hu
  have hmx : maxLen = 9223372036854775807 := rfl
  replace H := H.keep [0, 1, 2, 3, 4, 11] rfl
  replace S := S.drew
  refine sD H fun K11 k11=>sr 2 rfl <| sf fo_157_2 rfl <| sl S 2 one_155 rfl rfl rfl <| sr 1 rfl <| si sl_155 sz_175 rfl rfl (ownM.adr S (i := 3) rfl (by omega)) (by omega) <| slm one_175 rfl (ownM.rd S (i := 3) rfl (by omega) (by omega)) <| sr 2 rfl <| si sl_23 sz_3 rfl rfl (ownM.adr S (i := 1) rfl (by omega)) (by omega) <| sd ((does_load one_3 rfl (ownM.rd S (i := 1) rfl (by omega) (by omega))).to (v' := .int .i64 (j : Int)) (by rw [hjd]; rfl)) <| si sl_175 sz_177 rfl rfl (ragM.adr S (i := 0) (p := u) rfl hu (by omega)) (by omega) <| sr 1 rfl <| sE ?_;clear H a;intro a H
  refine k11 _ ?_;clear k11 K11
  have SR := (S.sel [2, 3] rfl rfl)
  refine meet_sr (X := Int × RM × (Nat → Nat)) [0, 1, 2, 3, 4] H rfl (fun ⟨sent2, r2, nx2⟩ => [(11, .int .i64 sent2)]) (fun ⟨sent2, r2, nx2⟩ => [ragM 177 7 (fun q => q < N.k) A N.n c (edgeC N r2 mv), ownM 3 1 NA N.k N.k (ncl nx2)]) (fun ⟨sent2, r2, nx2⟩ => PushI N L x u r nx sent2 r2 nx2 ∧ 0 ≤ sent2 ∧ sent2 ≤ most ∧ nx2 u = j ∧ (sent2 ≠ most → sent2 = 0 → Dead N r L x nx → 0 < r u j → L (N.to u j) = L u + 1 → ¬ Path N r L x (N.to u j))) SR (fun K13 k13 => ?_) ?_
  ·skip
   replace H := H.keep [0, 1, 2, 3, 4, 11, 12] rfl
   replace S := S.drew
   refine sD H fun K14 k14=>sr 2 rfl <| sp fo_177_1 rfl <| slm one_3 rfl (ragM.rd S (i := 0) (p := u) rfl hu (by omega) (by omega)) <| sr 2 rfl <| sg 13 5 57 70 true rfl rfl (fun hg6 => sy hg6 <| sr 1 rfl <| sy hg6 <| sr 1 rfl <| sy hg6 <| sr 1 rfl <| sy hg6 <| sp fo_177_0 rfl <| sy hg6 <| slm one_3 rfl (ragM.rd S (i := 0) (p := u) rfl hu (by omega) (by omega)) <| sy hg6 <| si sl_23 sz_3 rfl rfl (hl.adr (by omega)) (by omega) <| sy hg6 <| slm one_3 rfl (hl.rd S (by omega) (by omega)) <| sy hg6 <| sr 1 rfl <| sy hg6 <| sr 1 rfl <| sy hg6 <| si sl_23 sz_3 rfl rfl (hl.adr (by omega)) (by omega) <| sy hg6 <| slm one_3 rfl (hl.rd S (by omega) (by omega)) <| sy hg6 <| sd (does_add rfl rfl (by unfold i64ok; omega)) <| sy hg6 <| sr 1 rfl <| sz 13 rfl rfl rfl) <| sa rfl rfl rfl <| sE ?_;clear H a;intro a H
   refine k14 _ ?_;clear k14 K14
   refine cond_ H rfl (fun hc3 => ?_) (fun hc3 => ?_)
   ·skip
    try simp only [o1,o2,o3,o4,o5,o6,o7,o8,o9,oa] at hc3
    replace H := H.keep [0, 1, 2, 3, 4, 11, 12] rfl
    refine seq_tail 15 (by kernel_rfl) (by kernel_rfl) fun K15 k15 => ?_
    replace S := S.drew
    refine sF H <| sr 3 rfl <| sp fo_177_0 rfl <| slm one_3 rfl (ragM.rd S (i := 0) (p := u) rfl hu (by omega) (by omega)) <| sr 2 rfl <| sd (does_sub rfl rfl (by unfold i64ok; omega)) <| sr 2 rfl <| sp fo_177_1 rfl <| slm one_3 rfl (ragM.rd S (i := 0) (p := u) rfl hu (by omega) (by omega)) <| sd (does_min rfl rfl) <| sr 2 rfl <| sE ?_;clear H a;intro a H
    have S1 := (S.sel [2, 3, 0, 1] rfl rfl)
    refine list_call H rfl rfl Try.func93 rfl rfl (ih (N.to u j) (min (most - sent) (r1 u j)) r1 nx1 _ _ S1.startR (hl.nowR S1) hO1 (fun i hi => (hI.nxl i hi).2) htk (by omega) (by omega)) ?_;clear H a
    rintro _ _ a ⟨m2, r2, nx2, rfl, hK, S2⟩ H
    replace S := (S.sel [2, 3, 0, 1] rfl rfl).callR (M := [_, _, _, _]) S2; clear S1 S2
    have hru : r2 u j = r1 u j := hK.low u hu j hjn (by omega)
    have hO2 := hK.fl.ok hO1
    have hkm := hK.ml; have hk0 := hK.m0
    have hr2n := hO2.nn _ htk _ hbk; have hr2l := hO2.le W htk hbk
    have hpn : put2 r2 u j (r2 u j - m2) (N.to u j) (N.back u j) = r2 (N.to u j) (N.back u j) := put2_ne (fun h => W.to_ne u hu j hjn h.1)
    have hce : put2 (put2 r2 u j (r2 u j - m2)) (N.to u j) (N.back u j) (put2 r2 u j (r2 u j - m2) (N.to u j) (N.back u j) + m2) = along N r2 u j m2 := by rw [hpn]; rfl
    have hE := hI.edge W hu hjn hc3.2 h0s hK
    refine ls 1 H <| sr 1 rfl <| sE ?_;clear H a;intro a H
    refine k15 _ _ ?_;clear k15 K15
    replace H := H.keep [0, 1, 2, 3, 4, 11, 12, 13] rfl
    refine seq_list fun K16 k16 => ?_
    refine ls 8 H <| sr 2 rfl <| sp fo_177_1 rfl <| slm one_3 rfl (ragM.rd S (i := 2) (p := u) rfl hu (by omega) (by omega)) <| sr 1 rfl <| sd (does_sub rfl rfl (by unfold i64ok; omega)) <| sr 1 rfl <| sp fo_177_1 rfl <| sE ?_;clear H a;intro a H
    refine list_store_rag H S (i := 2) (p := u) rfl rfl rfl hu hjn (by omega) sz_3 rfl ?_;clear H a S;intro _ a S H
    replace S := ragM.congr S (i := 2) rfl (cell' := edgeC N (put2 r2 u j (r2 u j - m2)) mv) (fun _ _ => rfl) (fun _ _ => rfl) (fun _ _ => rfl) (fun i _ => edge_cells i)
    refine k16 _ _ ?_;clear k16 K16
    replace H := H.keep [0, 1, 2, 3, 4, 11, 12, 13] rfl
    refine seq_tail 21 (by kernel_rfl) (by kernel_rfl) fun K17 k17 => ?_
    replace S := S.drew
    refine sF H <| sr 2 rfl <| sf fo_157_2 rfl <| sl S 0 one_155 rfl rfl rfl <| sr 2 rfl <| sp fo_177_0 rfl <| slm one_3 rfl (ragM.rd S (i := 2) (p := u) rfl hu (by omega) (by omega)) <| si sl_155 sz_175 rfl rfl (ownM.adr S (i := 1) rfl (by omega)) (by omega) <| slm one_175 rfl (ownM.rd S (i := 1) rfl (by omega) (by omega)) <| sr 2 rfl <| sp fo_177_2 rfl <| slm one_3 rfl (ragM.rd S (i := 2) (p := u) rfl hu (by omega) (by omega)) <| si sl_175 sz_177 rfl rfl (ragM.adr S (i := 2) (p := N.to u j) rfl htk (by omega)) (by omega) <| sp fo_177_1 rfl <| slm one_3 rfl (ragM.rd S (i := 2) (p := N.to u j) rfl htk hbk (by omega)) <| sr 1 rfl <| sd (does_add rfl rfl (by rw [hpn]; unfold i64ok; omega)) <| si sl_175 sz_177 rfl rfl (ragM.adr S (i := 2) (p := N.to u j) rfl htk (by omega)) (by omega) <| sp fo_177_1 rfl <| sE ?_;clear H a;intro a H
    refine list_store_rag H S (i := 2) (p := N.to u j) rfl rfl rfl htk hbk (by omega) sz_3 rfl ?_;clear H a S;intro _ a S H
    replace S := ragM.congr S (i := 2) rfl (cell' := edgeC N (along N r2 u j m2) mv) (fun _ _ => rfl) (fun _ _ => rfl) (fun _ _ => rfl) (fun i _ k j hk hj => by rw [edge_cells i k j hk hj]; exact congrArg (fun r => edgeC N r mv i k j) hce)
    refine k17 _ _ ?_;clear k17 K17
    replace H := H.keep [0, 1, 2, 3, 4, 11, 13] rfl
    refine sO H <| sr 2 rfl <| sd (does_add rfl rfl (by unfold i64ok; omega)) <| sr 1 rfl <| sE ?_;clear H a;intro a H
    exact k13 (sent + m2, along N r2 u j m2, nx2) a _ (⟨hE, by omega, by omega, by rw [hK.nlow u hu (by omega)]; omega, fun h1 h2 hd h3 h4 => (by
      have h5 : sent = 0 := by omega
      obtain ⟨e1, e2⟩ := hI.zero h5
      have h6 := hK.none (by omega) (dead_congr W e1 (e2 hd)) (by omega)
      exact fun hp => h6 (path_congr W (fun i hi q hq => (e1 i hi q hq).symm) hp htk))⟩) (S.sel [2, 3, 0, 1] rfl rfl) (H.keep [11, 0, 1, 2, 3, 4] rfl)
   try simp only [o1,o2,o3,o4,o5,o6,o7,o8,o9,oa] at hc3
   refine wp_skip ?_
   exact k13 (sent, r1, nx1) a _ (⟨hI, h0s, hsm, hjd.symm, fun h1 h2 hd h3 h4 => by subst h2; exact (hI.same hu hjn (by intro h9; omega) h3 h4).elim⟩) (S.sel [0, 1, 2, 3] rfl rfl) (H.keep [11, 0, 1, 2, 3, 4] rfl)
  clear SR H S a
  intro xm a wm hp S H
  obtain ⟨sent2, r2, nx2⟩ := xm
  obtain ⟨hI2, h0s2, hsm2, hnj, hp2⟩ := hp
  refine sS H fun K19 k19=>sr 3 rfl <| sE ?_;clear H a;intro a H
  refine k19 _ ?_;clear k19 K19
  refine condE H rfl (fun hc4 => ?_) (fun hc4 => ?_)
  ·skip
   refine sS H fun K20 k20=>sr 2 rfl <| sE ?_;clear H a;intro a H
   refine k20 _ ?_;clear k20 K20
   refine wp_ret ?_
   refine ret1 (fn := Try.f93) rfl H rfl ?_
   exact ⟨_, _, _, rfl, hI2.full h0s2 (by omega), (S.sel [2, 3, 0, 1] rfl rfl)⟩
  refine wp_skip ?_
  refine k10 _ _ ?_
  replace H := H.keep [0, 1, 2, 3, 4, 11] rfl
  refine one_list ?_
  refine ls 6 H <| sr 2 rfl <| si sl_23 sz_3 rfl rfl (ownM.adr S (i := 1) rfl (by omega)) (by omega) <| slm one_3 rfl (ownM.rd S (i := 1) rfl (by omega) (by omega)) <| sd (does_add rfl rfl (by unfold i64ok; omega)) <| si sl_23 sz_3 rfl rfl (ownM.adr S (i := 1) rfl (by omega)) (by omega) <| sE ?_;clear H a;intro a H
  refine list_store_own H S (i := 1) rfl rfl rfl (by omega) (by omega) sz_3 rfl ?_
  clear H a S;intro _ a S H
  replace S := S.recell (i := 1) rfl (cell' := ncl (upd nx2 u (j + 1))) (fun k q hk hq => ncl_cells (by rw [hnj]; omega) k q hq)
  exact k7 (g1 - 1) (sent2, r2, upd nx2 u (j + 1)) a _ (by omega) (⟨hI2.skip W hu hnj hjn (fun h0 hd h1 h2 => hp2 (by omega) h0 hd h1 h2), by omega, by omega, by rw [upd_same]; omega⟩) (S.sel [0, 1, 2, 3] rfl rfl) (H.keep [11, 0, 1, 2, 3, 4] rfl)
 refine wp_exit ?_
 refine k6 _ _ ?_
 refine sS H fun K22 k22=>sr 2 rfl <| sE ?_;clear H a;intro a H
 refine k22 _ ?_;clear k22 K22
 refine wp_ret ?_
 refine ret1 (fn := Try.f93) rfl H rfl ?_
 exact ⟨_, _, _, rfl, hI.done hu (by omega) (by omega) h0s hsm, (S.sel [2, 3, 0, 1] rfl rfl)⟩

end Go.Proofs.Ytopmadlgolnmfaa
