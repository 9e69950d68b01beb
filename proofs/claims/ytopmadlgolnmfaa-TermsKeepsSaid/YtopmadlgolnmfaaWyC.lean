/- WyC. Printed by gen.py. -/
import Derived.Test.YtopmadlgolnmfaaWyB
namespace Go.Proofs.Ytopmadlgolnmfaa
open Go.RowKit
set_option linter.unusedVariables false
set_option linter.unusedSimpArgs false
set_option maxRecDepth 100000
set_option maxHeartbeats 4000000


theorem push_all (N : Net) (mv : Nat → Nat → Mv) (nb : Nat) (pl tk : Int) (st1 st2 : Value) (EA : Option Addr) (A : Nat → Option Addr) (c : Nat → Nat) (b x : Nat) (L : Nat → Int) (LA : Option Addr) (lc : Nat) (NA : Option Addr) (W : N.Wf) (hb : b < N.k) (hx : x < N.k) (hk : N.k ≤ 1000000) (hL : ∀ v, v < N.k → -1 ≤ L v ∧ L v < N.k) : ∀ n : Nat, PushC N mv nb pl tk st1 st2 EA A c b x L LA lc NA ((N.k : Int) - n) := by
  intro n
  induction n with
  | zero => intro u most r nx w F S hl hO hn hu hm hd; have := (hL u hu).2; omega
  | succ n ih =>
    intro u most r nx w F S hl hO hn hu hm hd
    exact push_step N r mv nb pl tk st1 st2 EA A c b x L LA lc NA _ u most nx W hb hx hk hL w F S hl hO hn hu hm (by omega) ih
theorem Fl.bound {N : Net} {r r' : RM} {b x : Nat} {v B : Int} (h : Fl N r r' b x v) (o : Ok N r B) (hbx : b ≠ x) : v ≤ resid N r (fun v => decide (v = b)) := by
  have h1 := resid_nn (S := (fun v => decide (v = b))) (h.ok o)
  rw [h.cut] at h1
  unfold ind at h1
  have hxb : ¬ x = b := fun e => hbx e.symm
  simp [hxb] at h1
  omega
theorem mk_ncl : ∀ k j, j < 1 → [Value.int .i64 0].getD j undef = ncl (fun _ => 0) k j := by
  intro k j hj
  have : j = 0 := by omega
  subst this; rfl
theorem dead0 {N : Net} {r : RM} {L : Nat → Int} {x : Nat} : Dead N r L x (fun _ => 0) := fun u hu j hj => absurd hj (Nat.not_lt_zero j)


theorem net_fill (N : Net) (r : RM) (mv : Nat → Nat → Mv) (nb : Nat) (pl tk : Int) (st1 st2 : Value) (EA : Option Addr) (A : Nat → Option Addr) (c : Nat → Nat) (b x : Nat) (w : World) (F : Nat → Prop) (S : St w F [boxM nb 157 [.int .i64 pl, st1, st2, .int .i64 tk, .slice EA N.k N.k, .int .i64 (b : Int), .int .i64 (x : Int)], ownM 175 1 EA N.k N.k (hdc A N.n c), ragM 177 7 (fun q => q < N.k) A N.n c (edgeC N r mv)] w) (W : N.Wf) (hO : Ok N r 2199023255552) (hb : b < N.k) (hx : x < N.k) (hbx : b ≠ x) (hk : N.k ≤ 1000000) (hV : resid N r (fun v => decide (v = b)) ≤ 1000000000) :
    Calls Try.prog 68 [.pointer (some ⟨nb, 0, none⟩)].toArray w (Ret (fun u w' => ∃ v r', u = .int .i64 v ∧ Fl N r r' b x v ∧ 0 ≤ v ∧ (∃ L, LevOk N r' b L ∧ L x < 0) ∧ St w F [boxM nb 157 [.int .i64 pl, st1, st2, .int .i64 tk, .slice EA N.k N.k, .int .i64 (b : Int), .int .i64 (x : Int)], ownM 175 1 EA N.k N.k (hdc A N.n c), ragM 177 7 (fun q => q < N.k) A N.n c (edgeC N r' mv)] w')) := by
 refine enter Try.func68 rfl Try.ntmps68 rfl (fun a H => ?_)
 skip
 refine sS H fun K1 k1=>sr 1 rfl <| sE ?_;clear H a;intro a H
 refine k1 _ ?_;clear k1 K1
 refine sS H fun K2 k2=>sr 1 rfl <| sE ?_;clear H a;intro a H
 refine k2 _ ?_;clear k2 K2
 refine wp_block ?_
 refine loop_st (X := Int × RM) (R0 := _) [0] H rfl (fun ⟨sum, r1⟩ => [(3, .int .i64 sum)]) (fun ⟨sum, r1⟩ => [ragM 177 7 (fun q => q < N.k) A N.n c (edgeC N r1 mv)]) (fun g ⟨sum, r1⟩ => Fl N r r1 b x sum ∧ 0 ≤ sum ∧ (g : Int) + sum = resid N r (fun v => decide (v = b))) ((resid N r (fun v => decide (v = b))).toNat) (0, r) ?_ (S.sel [2, 0, 1] rfl rfl) (H.keep [3, 0] rfl) ?_
 · exact ⟨Fl.zero hO, by omega, by have := resid_nn (S := (fun v => decide (v = b))) hO; omega⟩
 clear H S a
 intro g1 x1 a w1 hp S H K3 k3
 obtain ⟨sum, r1⟩ := x1
 dsimp only at hp S H
 obtain ⟨hF, h0, hg⟩ := hp
 have hO1 := hF.ok hO
 have hFb0 := hF.bound hO hbx
 refine wp_block ?_
 refine seq_list fun K4 k4 => ?_
 refine ls 1 H <| sr 1 rfl <| sE ?_;clear H a;intro a H
 have S1 := (S.sel [1, 2, 0] rfl rfl)
 refine list_call H rfl rfl Try.func92 rfl rfl (net_levels N r1 mv nb pl tk st1 st2 EA A c b x _ _ S1.startR W hO1 hb hx hbx hk) ?_;clear H a
 rintro _ _ a ⟨LA, L, rfl, hLv, S2⟩ H
 replace S := (S.sel [1, 2, 0] rfl rfl).callR (M := [_, _, _]) S2; clear S1 S2
 refine ls 1 H <| sr 1 rfl <| sE ?_;clear H a;intro a H
 refine k4 _ _ ?_;clear k4 K4
 refine wp_seq_k fun K5 k5 => ?_
 replace H := H.keep [0, 3, 4] rfl
 refine sS H fun K6 k6=>sr 3 rfl <| sf fo_157_4 rfl <| sl S 1 one_3 rfl rfl rfl <| si sl_23 sz_3 rfl rfl (ownM.adr S (i := 0) rfl (by omega)) (by omega) <| slm one_3 rfl (ownM.rd S (i := 0) rfl (by omega) (by omega)) <| sr 1 rfl <| sE ?_;clear H a;intro a H
 refine k6 _ ?_;clear k6 K6
 refine condL H rfl (fun hc1 => ?_) (fun hc1 => ?_)
 ·skip
  replace H := H.keep [3] rfl
  refine sS H fun K7 k7=>sr 2 rfl <| sE ?_;clear H a;intro a H
  refine k7 _ ?_;clear k7 K7
  refine wp_ret ?_
  refine ret1 (fn := Try.f68) rfl H rfl ?_
  exact ⟨_, _, rfl, hF, h0, ⟨L, hLv, by omega⟩, (S.sel [1, 2, 3] rfl rfl)⟩
 refine wp_skip ?_
 refine k5 _ _ ?_
 replace H := H.keep [0, 3, 4] rfl
 replace S := S.drew
 refine one_wq [(0, true), (1, true), (2, true), (3, true), (4, true), (5, true), (6, true), (7, true), (8, true), (9, true), (10, true), (11, true), (12, false), (13, false), (14, true), (15, true)] (by kernel_rfl) (by kernel_rfl) (S.sel [0, 1, 2] rfl rfl) ?_
 refine qF H <| qr 4 rfl <| qd rfl (fun _ S => (does_field fo_157_3 rfl)) <| qd rfl (fun _ S => does_load one_3 rfl (boxM.rd S (i := 1) rfl rfl)) <| qr 3 rfl <| qd rfl (fun _ S => (does_field fo_157_2 rfl)) <| qd rfl (fun _ S => does_load one_155 rfl (boxM.rd S (i := 1) rfl rfl)) <| qd rfl (fun _ S => does_len sl_155 rfl) <| qK ?_;clear H a;intro a H
 refine wq_eff rfl ?_
 refine list_make (n := _) H rfl S sl_23 sz_3 ze_3 by_3 rfl (by decide) rfl rfl (by omega) (by omega) ?_;clear H a S;intro A1 _ a hA1 S H
 replace S := S.recell (i := 0) rfl (cell' := ncl (fun _ => 0)) (fun k j hk hj => mk_ncl k j hj)
 refine wpList_nil (And.intro (S.sel [1, 2, 3] rfl rfl) ?_)
 refine wq_eff rfl ?_
 have S1 := (S.sel [2, 3, 4, 0] rfl rfl)
 refine list_call H rfl rfl Try.func93 rfl rfl ((by have := push_all N mv nb pl tk st1 st2 EA A c b x L LA N.k _ W hb hx hk hLv.rng N.k b 1099511627776 r1 (fun _ => 0) _ _ S1.startR (ownM.inF S (i := 1) rfl [2, 3, 4, 0] rfl rfl) hO1 (fun i hi => Nat.zero_le _) hb (by omega) (by rw [hLv.b0]; omega); exact this)) ?_;clear H a
 rintro _ _ a ⟨m2, r2, nx2, rfl, hK, S2⟩ H
 replace S := (S.sel [2, 3, 4, 0, 1] rfl rfl).callR (M := [_, _, _, _]) S2; clear S1 S2
 have hm0 := hK.m0
 have hm1 : m2 ≠ 0 := fun h => hK.none h dead0 (by omega) (path_of hLv hx (by omega))
 have hF2 := hF.more hK.fl
 have hFb := hF2.bound hO hbx
 refine wpList_nil (And.intro (S.sel [4, 0, 1] rfl rfl) ?_)
 refine qF H <| qd rfl (fun _ S => does_add rfl rfl (by unfold i64ok; omega)) <| qr 1 rfl <| qK ?_;clear H a;intro a H
 refine wq_nil ?_
 exact k3 ((resid N r (fun v => decide (v = b)) - (sum + m2)).toNat) (sum + m2, r2) a _ (by omega) (⟨hF2, by omega, by omega⟩) (S.sel [2, 0, 1] rfl rfl) (H.keep [3, 0] rfl)

end Go.Proofs.Ytopmadlgolnmfaa
