/- TmC. Printed by gen.py. -/
import Derived.Test.YtopmadlgolnmfaaTmB
import Derived.Test.YtopmadlgolnmfaaH2
namespace Go.Proofs.Ytopmadlgolnmfaa
open Go.RowKit
set_option linter.unusedVariables false
set_option linter.unusedSimpArgs false
set_option maxRecDepth 100000
set_option maxHeartbeats 4000000


theorem six {p : Nat → Prop} (h0 : p 0) (h1 : p 1) (h2 : p 2) (h3 : p 3) (h4 : p 4) (h5 : p 5) : ∀ j, j < 6 → p j := by
  intro j hj
  match j, hj with
  | 0, _ => exact h0
  | 1, _ => exact h1
  | 2, _ => exact h2
  | 3, _ => exact h3
  | 4, _ => exact h4
  | 5, _ => exact h5
theorem ucell_snoc {l : List Use} {x : Use} {vs : List Value} (h : ∀ j, j < 6 → vs.getD j undef = x.cell j) : ∀ q j, q < l.length + 1 → j < 6 → capp l.length (ucell l) (fun k' j => ([vs].getD k' []).getD j undef) q j = ucell (l ++ [x]) q j := by
  intro q j hq hj
  unfold capp ucell
  by_cases h1 : q < l.length
  · rw [if_pos h1, List.getD_eq_getElem?_getD, List.getD_eq_getElem?_getD, List.getElem?_append_left h1]
  · rw [if_neg h1]
    have e : q = l.length := by omega
    subst e
    rw [Nat.sub_self, List.getD_eq_getElem?_getD (l := l ++ [x]), List.getElem?_append_right (Nat.le_refl _), Nat.sub_self]
    exact h j hj
theorem byd_any {w : World} {p : Part} {l : List Use} {v : Value} {w' : World} (h : v = .tuple #[.int .i64 (beyondO p l Prod.snd).1, .int .i64 (beyondO p l Prod.snd).2] ∧ St w noF [] w') : ∃ n e : Int, v = .tuple #[.int .i64 n, .int .i64 e] ∧ bydB p l = (!decide (e = 0) || decide (0 ≤ n)) ∧ St w noF [] w' := ⟨_, _, h.1, rfl, h.2⟩
theorem nil_of {w : World} {F : Nat → Prop} {sz n : Nat} {A : Option Addr} {cell : Nat → Nat → Value} (h : InS w F sz A n cell) : A = none → n = 0 ∧ n = 0 := fun e => by
  rcases Nat.eq_zero_or_pos n with h0 | h0
  · exact ⟨h0, h0⟩
  · obtain ⟨b, o, h1, _⟩ := h h0
    rw [e] at h1; cases h1


theorem tm_beyond (u : Unt) (l : List Use) (LA : Option Addr) (lc : Nat) (age : Int) (w : World) (hur : InS w noF 2 u.RA u.rates.length (scell u.rates)) (hurn : u.rates.length ≤ 9223372036854775807) (huu : InS w noF 6 u.UA u.uses.length (ucell u.uses)) (huun : u.uses.length ≤ 9223372036854775807) (hl : InS w noF 6 LA l.length (ucell l)) (hln : l.length ≤ 1000000) (hlc : l.length ≤ lc) :
    Calls Try.prog 102 [.agg [.int .i64 u.mach, .int .i64 u.every, .int .i64 u.seen, .slice u.RA u.rates.length u.rc, .int .i64 u.worn, .int .i64 u.turns, .int .i64 u.age, .slice u.UA u.uses.length u.uc, .int .i64 u.old, .int .i64 u.tn, .int .i64 u.cl, .int .i64 u.kind].toArray, .slice LA l.length lc, .int .i64 age].toArray w (Ret (fun v w' => v = .bool (bydB u.part (l ++ [⟨age, u.tn, u.cl, false, 0, 0⟩])) ∧ St w noF [] w')) := by
 refine enter Try.func102 rfl Try.ntmps102 rfl (fun a H => ?_)
 have S := St.start w
 refine seq_list fun K1 k1 => ?_
 refine list_box H rfl S rfl rfl ?_;clear H a S;intro b3 _ a hb3 hbw3 S H
 refine ls 1 H <| sr 1 rfl <| sE ?_;clear H a;intro a H
 refine k1 _ _ ?_;clear k1 K1
 replace H := H.keep [1, 2, 3] rfl
 refine seq_list fun K2 k2 => ?_
 refine ls 6 H <| sr 1 rfl <| sf fo_65_6 rfl <| sl S 0 one_3 rfl rfl rfl <| sf fo_65_7 rfl <| sl S 0 one_3 rfl rfl rfl <| sd (does_build bt_72 rfl rfl) <| sE ?_;clear H a;intro a H
 refine list_alloc H rfl S ze_72 ?_;clear H a S;intro b7 _ a hb7 hbw7 S H
 refine list_store H S (i := 0) rfl rfl rfl rfl sz_72 rfl rfl ?_
 clear H a S;intro _ a S H
 refine k2 _ _ ?_;clear k2 K2
 replace H := H.keep [1, 3, 7] rfl
 replace S := S.drew
 refine seq_wt 999999 (.q 0 (.q 1 (.q 2 (.q 3 (.q 4 (.q 5 (.q 6 (.q 7 (.q 8 (.e 9 (.e 10 (.e 11 (.q 12 (.q 13 (.q 14 (.q 15 (.q 16 .nil))))))))))))))))) (by kernel_rfl) (by kernel_rfl) (S.sel [0, 1] rfl rfl) fun K3 k3 => ?_
 refine wt_does H rfl rfl (fun _ S => (does_field fo_65_3 rfl)) ?_;clear H a;intro a H
 refine wt_does H rfl rfl (fun _ S => (does_loadBox agg_62 sz_62 rfl S (i := 1) rfl rfl)) ?_;clear H a;intro a H
 refine wt_does H rfl rfl (fun _ S => does_move rfl) ?_;clear H a;intro a H
 refine wt_does H rfl rfl (fun _ S => does_move rfl) ?_;clear H a;intro a H
 refine wt_does H rfl rfl (fun _ S => does_len sl_63 rfl) ?_;clear H a;intro a H
 refine wt_does H rfl rfl (fun _ S => does_move rfl) ?_;clear H a;intro a H
 refine wt_does H rfl rfl (fun _ S => does_len sl_63 rfl) ?_;clear H a;intro a H
 refine wt_does H rfl rfl (fun _ S => does_slice3 sl_63 sz_72 rfl rfl rfl hlc) ?_;clear H a;intro a H
 refine wt_does H rfl rfl (fun _ S => (does_loadBox agg_72 sz_72 rfl S (i := 0) rfl rfl)) ?_;clear H a;intro a H
 refine wt_eff rfl ?_
 refine list_build' H rfl S sl_63 sz_72 ze_72 rfl rfl rfl rfl rfl rfl rfl rfl rfl ?_;clear H a S;intro A1 _ a hA1 S H
 refine wpList_nil (And.intro (Or.inr (S.sel [1, 2] rfl rfl)) ?_)
 refine wt_eff rfl ?_
 refine list_appendC H rfl S sl_63 sz_72 ze_72 by_72 rfl rfl rfl rfl (n := l.length) (cell := ucell l) (cell' := _) (hl.now S) (nil_of (hl.now S)) (by omega) (by omega) (ownM.inS S (i := 0) rfl) (one_vs (six rfl rfl rfl rfl rfl rfl)) (by omega) (by omega) ?_;clear H a S;intro A2 c2 _ a S H
 replace S := S.recell (i := 0) rfl (cell' := ucell (l ++ [⟨age, u.tn, u.cl, false, 0, 0⟩])) (ucell_snoc (x := ⟨age, u.tn, u.cl, false, 0, 0⟩) (six rfl rfl rfl rfl rfl rfl))
 refine wpList_nil (And.intro (Or.inr (S.sel [2, 3] rfl rfl)) ?_)
 refine wt_eff rfl ?_
 rw [show l.length + 1 = (l ++ [(⟨age, u.tn, u.cl, false, 0, 0⟩ : Use)]).length by simp] at H S
 have hcl9 := ret_imp (chain_Beyond u.rates u.worn u.turns u.age u.RA u.rc (l ++ [⟨age, u.tn, u.cl, false, 0, 0⟩]) A2 c2 _ (hur.now S) hurn ((ownM.inS S (i := 0) rfl)) (by simp; omega)) (fun _ _ h => byd_any h)
 refine list_call H rfl rfl Try.func52 rfl rfl hcl9 ?_;clear H a hcl9
 rintro _ _ a ⟨n9, e9, rfl, hb9, S2⟩ H
 replace S := S.call S2;clear S2
 refine wpList_nil (And.intro (Or.inr (S.sel [2, 3] rfl rfl)) ?_)
 refine wt_does H rfl rfl (fun _ S => does_move rfl) ?_;clear H a;intro a H
 refine wt_does H rfl rfl (fun _ S => does_extract rfl rfl) ?_;clear H a;intro a H
 refine wt_does H rfl rfl (fun _ S => does_extract rfl rfl) ?_;clear H a;intro a H
 refine wt_does H rfl rfl (fun _ S => does_assign rfl) ?_;clear H a;intro a H
 refine wt_does H rfl rfl (fun _ S => does_assign rfl) ?_;clear H a;intro a H
 refine wt_nil ?_
 refine k3 _ _ ?_
 clear k3 K3
 replace H := H.keep [8, 9] rfl
 refine sS H fun K4 k4=>sr 3 rfl <| sg 2 2 33 35 false rfl rfl (fun hg3 => sy hg3 <| sr 1 rfl <| sy hg3 <| sr 1 rfl <| sz 2 rfl rfl rfl) <| so rfl rfl rfl <| sr 1 rfl <| sE ?_;clear H a;intro a H
 refine k4 _ ?_;clear k4 K4
 refine wp_ret ?_
 refine ret1 (fn := Try.f102) rfl H rfl ?_
 exact ⟨congrArg Value.bool hb9.symm, (S.sel [] rfl rfl)⟩

theorem tm_live (u : Unt) (J : Nat → Int) (dy : Nat) (w : World) (hur : InS w noF 2 u.RA u.rates.length (scell u.rates)) (hurn : u.rates.length ≤ 9223372036854775807) (huu : InS w noF 6 u.UA u.uses.length (ucell u.uses)) (huun : u.uses.length ≤ 9223372036854775807) (hucp : u.uses.length ≤ u.uc) (hui : untI u) (ho0 : 0 ≤ u.old) (hJ : ∀ d, 0 ≤ J d ∧ J d ≤ 6) (hdy : dy ≤ 20) :
    Calls Try.prog 87 [.agg [.int .i64 u.mach, .int .i64 u.every, .int .i64 u.seen, .slice u.RA u.rates.length u.rc, .int .i64 u.worn, .int .i64 u.turns, .int .i64 u.age, .slice u.UA u.uses.length u.uc, .int .i64 u.old, .int .i64 u.tn, .int .i64 u.cl, .int .i64 u.kind].toArray, .agg ((List.range 20).map fun k => Value.int .i64 (J k)).toArray, .int .i64 (dy : Int)].toArray w (Ret (fun v w' => v = .agg [.int .i64 (bsum (runB' u J) dy), .int .i64 (bsum (certB u J) dy)].toArray ∧ St w noF [] w')) := by
 have hmx : maxLen = 9223372036854775807 := rfl
 unfold untI at hui
 refine enter Try.func87 rfl Try.ntmps87 rfl (fun a H => ?_)
 have S := St.start w
 refine seq_list fun K1 k1 => ?_
 refine list_box H rfl S rfl rfl ?_;clear H a S;intro b3 _ a hb3 hbw3 S H
 refine list_box H rfl S rfl rfl ?_;clear H a S;intro b4 _ a hb4 hbw4 S H
 refine list_alloc H rfl S ze_101 ?_;clear H a S;intro b6 _ a hb6 hbw6 S H
 refine k1 _ _ ?_;clear k1 K1
 replace S := box_own S (i := 1) rfl (by omega)
 refine seq_list fun K2 k2 => ?_
 refine list_alloc H rfl S ze_101 ?_;clear H a S;intro b7 _ a hb7 hbw7 S H
 refine k2 _ _ ?_;clear k2 K2
 replace H := H.keep [2, 3, 4, 6, 7] rfl
 replace S := S.drew
 refine sD H fun K3 k3=>sf fo_65_4 rfl <| sl S 3 one_63 rfl rfl rfl <| sf fo_65_5 rfl <| sl S 3 one_3 rfl rfl rfl <| sd (does_neg rfl (by unfold i64ok; omega)) <| sf fo_65_2 rfl <| sl S 3 one_3 rfl rfl rfl <| sr 3 rfl <| sE ?_;clear H a;intro a H
 refine k3 _ ?_;clear k3 K3
 refine wp_seq_k fun K4 k4 => ?_
 replace H := H.keep [2, 3, 4, 6, 7, 8, 9, 10] rfl
 refine sS H fun K5 k5=>sr 2 rfl <| sE ?_;clear H a;intro a H
 refine k5 _ ?_;clear k5 K5
 refine wp_block ?_
 replace S := S.frz0
 refine loop_st (X := Nat × LSt × Option Addr × Nat × (Nat → Prop) × World) (R0 := _) [3, 4, 6, 7, 21] H rfl (fun ⟨d, st, A9, c9, B9, wz⟩ => [(8, .slice A9 st.uses.length c9), (9, .int .i64 st.born), (10, .int .i64 st.seen), (22, .int .i64 (d : Int))]) (fun ⟨d, st, A9, c9, B9, wz⟩ => [boxM b7 101 [.int .i64 (bsum (runB' u J) d), .int .i64 (bsum (certB u J) d)], frzM B9 wz]) (fun g ⟨d, st, A9, c9, B9, wz⟩ => (d ≤ dy ∧ g + d = dy) ∧ (RdF w noF B9 wz 6 A9 st.uses.length (ucell st.uses) ∧ st.uses.length ≤ c9) ∧ st = lifeS u J d) (dy) (0, lifeS u J 0, u.UA, u.uc, noF, _) ?_ (S.sel [1, 0, 2, 3, 4] rfl rfl) (H.keep [8, 9, 10, 22, 3, 4, 6, 7, 21] rfl) ?_
 · exact ⟨⟨by omega, by omega⟩, ⟨RdF.base huu, hucp⟩, rfl⟩
 clear H S a
 intro g1 x1 a w1 hp S H K6 k6
 obtain ⟨d, st, A9, c9, B9, wz⟩ := x1
 dsimp only at hp S H
 obtain ⟨⟨hdl, hgd⟩, ⟨hrd, hcap⟩, hst9⟩ := hp
 subst hst9
 have hln := lifeS_len (u := u) (J := J) d
 have hbo := lifeS_born (u := u) (J := J) (by omega) d
 have hsn := lifeS_seen (u := u) (J := J) (by omega) d
 skip
 refine sS H fun K7 k7=>sr 1 rfl <| sE ?_;clear H a;intro a H
 refine k7 _ ?_;clear k7 K7
 refine wp_seq_k fun K8 k8 => ?_
 refine condL H rfl (fun hc1 => ?_) (fun hc1 => ?_)
 ·skip
  refine wp_skip ?_
  refine k8 _ _ ?_
  refine wp_seq_k fun K9 k9 => ?_
  refine wp_block ?_
  refine sS H fun K10 k10=>sr 2 rfl <| sE ?_;clear H a;intro a H
  refine k10 _ ?_;clear k10 K10
  have hJd := hJ d
  replace H := H.keep [3, 4, 6, 7, 8, 9, 10, 11, 21, 22] rfl
  replace S := S.drew
  refine sD H fun K11 k11=>sr 1 rfl <| sd (does_indexArr Try.underlying150 sz_3 rfl rfl (by omega) (by omega)) <| slm one_3 rfl (ownM.rd S (i := 3) (k := d) (j := 0) rfl (by omega) (by omega)) <| sd (does_shr rfl rfl (by omega) (by omega)) <| sd (does_and1 rfl rfl) <| sr 2 rfl <| sd (does_indexArr Try.underlying150 sz_3 rfl rfl (by omega) (by omega)) <| slm one_3 rfl (ownM.rd S (i := 3) (k := d) (j := 0) rfl (by omega) (by omega)) <| sd (does_shr rfl rfl (by omega) (by omega)) <| sd (does_and1 rfl rfl) <| sr 3 rfl <| sE ?_;clear H a;intro a H
  refine k11 _ ?_;clear k11 K11
  have SR := (S.sel [0, 1, 2, 3, 4] rfl rfl)
  refine meet_sr (X := Int) [3, 4, 6, 7, 8, 9, 11, 13, 21, 22] H rfl (fun x => [(10, .int .i64 x)]) (fun x => []) (fun x => x = seenN (lifeS u J d) (J d) d) SR (fun K13 k13 => ?_) ?_
  ·skip
   replace H := H.keep [3, 4, 6, 7, 8, 9, 10, 11, 12, 13, 21, 22] rfl
   refine sS H fun K14 k14=>sr 1 rfl <| sE ?_;clear H a;intro a H
   refine k14 _ ?_;clear k14 K14
   refine condE H rfl (fun hc2 => ?_) (fun hc2 => ?_)
   ·skip
    refine sO H <| sr 2 rfl <| sE ?_;clear H a;intro a H
    exact k13 _ a _ ((if_pos (show insp (J d) = true from decide_eq_true hc2)).symm) (S.sel [0, 1, 2, 3, 4] rfl rfl) (H.keep [10, 3, 4, 6, 7, 8, 9, 11, 13, 21, 22] rfl)
   refine wp_skip ?_
   exact k13 _ a _ ((if_neg (show ¬ insp (J d) = true from fun h => hc2 (of_decide_eq_true h))).symm) (S.sel [0, 1, 2, 3, 4] rfl rfl) (H.keep [10, 3, 4, 6, 7, 8, 9, 11, 13, 21, 22] rfl)
  clear SR H S a
  intro xm a wm hp S H
  obtain ⟨x, rfl⟩ : ∃ y, y = xm := ⟨_, rfl⟩
  have hx9 := hp
  have hxb := seenN_bd (s := (lifeS u J d)) (j := J d) (d := d) hsn
  rw [← hx9] at hxb
  have SR := (S.sel [1, 2, 3, 4] rfl rfl)
  refine meet_sr (X := Unit) [3, 4, 6, 7, 8, 9, 10, 11, 13, 21, 22] H rfl (fun u3 => []) (fun u3 => [boxM b7 101 [.int .i64 (bsum (runB' u J) d), .int .i64 (bsum (certB u J) (d + 1))]]) (fun u3 => True) SR (fun K17 k17 => ?_) ?_
  ·skip
   refine sS H fun K18 k18=>sr 2 rfl <| sd (does_sub rfl rfl (by unfold i64ok; omega)) <| sf fo_65_1 rfl <| sl S 4 one_3 rfl rfl rfl <| sr 1 rfl <| sE ?_;clear H a;intro a H
   refine k18 _ ?_;clear k18 K18
   refine condG H rfl (fun hc3 => ?_) (fun hc3 => ?_)
   ·skip
    replace H := H.keep [3, 4, 6, 7, 8, 9, 10, 11, 13, 21, 22] rfl
    refine one_tail 6 (by kernel_rfl) (by kernel_rfl) ?_
    replace S := S.drew
    refine sF H <| sf fo_101_1 rfl <| sl S 0 one_3 rfl rfl rfl <| sr 1 rfl <| sd (does_shl rfl rfl (by omega) (by omega) (shl_ok (by omega))) <| sd (does_orW rfl rfl (bsum_lt40 _ (by omega)) (by omega) (bsum_hi (Nat.le_refl d))) <| sf fo_101_1 rfl <| sE ?_;clear H a;intro a H
    refine list_store H S (i := 0) rfl rfl rfl rfl sz_3 rfl rfl ?_
    clear H a S;intro _ a S H
    replace S := boxM.same S (i := 0) rfl (cs' := [.int .i64 (bsum (runB' u J) d), .int .i64 (bsum (certB u J) (d + 1))]) (by rw [← bsum_t (f := certB u J) (n := d) ((certB_up u J d x hx9).symm.trans (decide_eq_true hc3))] <;> rfl)
    exact k17 () a _ (trivial) (S.sel [0, 1, 2, 3, 4] rfl rfl) (H.keep [3, 4, 6, 7, 8, 9, 10, 11, 13, 21, 22] rfl)
   refine wp_skip ?_
   replace S := boxM.same S (i := 0) rfl (cs' := [.int .i64 (bsum (runB' u J) d), .int .i64 (bsum (certB u J) (d + 1))]) (by rw [← bsum_f (f := certB u J) (n := d) ((certB_up u J d x hx9).symm.trans (decide_eq_false (by omega)))] <;> rfl)
   exact k17 () a _ (trivial) (S.sel [0, 1, 2, 3, 4] rfl rfl) (H.keep [3, 4, 6, 7, 8, 9, 10, 11, 13, 21, 22] rfl)
  clear SR H S a
  intro xm a wm hp S H
  obtain ⟨u3, rfl⟩ : ∃ y, y = xm := ⟨_, rfl⟩
  skip
  have SR := (S.sel [2, 3, 4] rfl rfl)
  refine meet_sr (X := Option Addr × Nat × (Nat → Prop) × World) [3, 4, 6, 7, 9, 10, 11, 13, 21, 22] H rfl (fun ⟨A8, c8, B8, wy⟩ => [(8, .slice A8 (usesN u J d).length c8)]) (fun ⟨A8, c8, B8, wy⟩ => [boxM b7 101 [.int .i64 (bsum (runB' u J) (d + 1)), .int .i64 (bsum (certB u J) (d + 1))], frzM B8 wy]) (fun ⟨A8, c8, B8, wy⟩ => RdF w noF B8 wy 6 A8 (usesN u J d).length (ucell (usesN u J d)) ∧ (usesN u J d).length ≤ c8) SR (fun K21 k21 => ?_) ?_
  ·skip
   replace H := H.keep [3, 4, 6, 7, 8, 9, 10, 11, 13, 21, 22] rfl
   refine seq_list fun K22 k22 => ?_
   refine ls 13 H <| sr 1 rfl <| sd (does_indexArr Try.underlying150 sz_3 rfl rfl (by omega) (by omega)) <| slm one_3 rfl (ownM.rd S (i := 3) (k := d) (j := 0) rfl (by omega) (by omega)) <| sr 2 rfl <| sg 6 4 55 61 true rfl rfl (fun hg5 => sy hg5 <| sr 1 rfl <| sy hg5 <| sr 1 rfl <| sy hg5 <| sd (does_sub rfl rfl (by unfold i64ok; omega)) <| sy hg5 <| sf fo_65_1 rfl <| sy hg5 <| sl S 4 one_3 rfl rfl rfl <| sy hg5 <| sr 1 rfl <| sz 6 rfl rfl rfl) <| sa rfl rfl rfl <| sr 1 rfl <| sE ?_;clear H a;intro a H
   apply list_guard (i := 12) (g := 63) (t := 70) (b := true) 7 H S rfl rfl (by kernel_rfl) (by kernel_rfl) rfl rfl
   case h1 =>
    intro hg13
    refine ls 5 H <| sy hg13 <| sd ((does_loadBox agg_65 sz_65 rfl S (i := 4) rfl rfl)) <| sy hg13 <| sr 1 rfl <| sy hg13 <| sr 1 rfl <| sy hg13 <| sr 1 rfl <| sy hg13 <| sd (does_sub rfl rfl (by unfold i64ok; omega)) <| sE ?_;intro a H
    refine list_yes' H rfl rfl (by assumption) ?_
    refine list_call H rfl rfl Try.func102 rfl rfl (tm_beyond u (lifeS u J d).uses A9 c9 ((d : Int) - (lifeS u J d).born) _ (hur.now S) hurn (huu.now S) huun (hrd.now S (i := 1) rfl) (by omega) hcap) ?_
    rintro _ _ a ⟨rfl, S2⟩ H
    replace S := S.call S2;clear S2
    refine ls 1 H <| sy hg13 <| sr 1 rfl <| sE ?_;intro a H
    exact wpList_nil ⟨H.strip 7 rfl rfl, (S.sel [0, 1, 2, 3, 4] rfl rfl)⟩
   clear H a S;intro a _ H S
   refine ls 1 H <| sa rfl rfl rfl <| sE ?_;clear H a;intro a H
   refine k22 _ _ ?_;clear k22 K22
   refine cond_ H rfl (fun hc4 => ?_) (fun hc4 => ?_)
   ·skip
    rw [runB_up u J d x hx9] at hc4
    replace H := H.keep [3, 4, 6, 7, 8, 9, 10, 11, 13, 21, 22] rfl
    refine seq_tail 6 (by kernel_rfl) (by kernel_rfl) fun K23 k23 => ?_
    replace S := S.drew
    refine sF H <| sf fo_101_0 rfl <| sl S 0 one_3 rfl rfl rfl <| sr 1 rfl <| sd (does_shl rfl rfl (by omega) (by omega) (shl_ok (by omega))) <| sd (does_orW rfl rfl (bsum_lt40 _ (by omega)) (by omega) (bsum_hi (Nat.le_refl d))) <| sf fo_101_0 rfl <| sE ?_;clear H a;intro a H
    refine list_store H S (i := 0) rfl rfl rfl rfl sz_3 rfl rfl ?_
    clear H a S;intro _ a S H
    refine k23 _ _ ?_;clear k23 K23
    replace H := H.keep [3, 4, 6, 7, 8, 9, 10, 11, 13, 21, 22] rfl
    replace S := S.drew
    refine one_wq [(0, true), (1, true), (2, true), (3, true), (4, true), (5, true), (6, true), (7, true), (8, true), (9, true), (10, true), (11, true), (12, true), (13, true), (14, false), (15, false), (16, true)] (by kernel_rfl) (by kernel_rfl) (S.sel [0, 1, 2, 3, 4] rfl rfl) ?_
    refine qF H <| qr 2 rfl <| qd rfl (fun _ S => does_len sl_63 rfl) <| qr 1 rfl <| qd rfl (fun _ S => does_len sl_63 rfl) <| qd rfl (fun _ S => does_slice3 sl_63 sz_72 rfl rfl rfl hcap) <| qr 2 rfl <| qd rfl (fun _ S => does_sub rfl rfl (by unfold i64ok; omega)) <| qd rfl (fun _ S => (does_field fo_65_6 rfl)) <| qd rfl (fun _ S => does_load one_3 rfl (boxM.rd S (i := 4) rfl rfl)) <| qd rfl (fun _ S => (does_field fo_65_7 rfl)) <| qd rfl (fun _ S => does_load one_3 rfl (boxM.rd S (i := 4) rfl rfl)) <| qd rfl (fun _ S => does_build bt_72 rfl rfl) <| qK ?_;clear H a;intro a H
    refine wq_eff rfl ?_
    refine list_build' H rfl S sl_63 sz_72 ze_72 rfl rfl rfl rfl rfl rfl rfl rfl rfl ?_;clear H a S;intro A1 _ a hA1 S H
    refine wpList_nil (And.intro (S.sel [1, 2, 3, 4, 5] rfl rfl) ?_)
    refine wq_eff rfl ?_
    refine list_appendC H rfl S sl_63 sz_72 ze_72 by_72 rfl rfl rfl rfl (n := (lifeS u J d).uses.length) (cell := ucell (lifeS u J d).uses) (cell' := _) (hrd.now S (i := 2) rfl) (nil_of (hrd.now S (i := 2) rfl)) (by omega) (by omega) (ownM.inS S (i := 0) rfl) (one_vs (six rfl rfl rfl rfl rfl rfl)) (by omega) (by omega) ?_;clear H a S;intro A3 c3 _ a S H
    replace S := S.recell (i := 0) rfl (cell' := ucell ((lifeS u J d).uses ++ [useAt u d (lifeS u J d).born])) (ucell_snoc (x := useAt u d (lifeS u J d).born) (six rfl rfl rfl rfl rfl rfl))
    refine wpList_nil (And.intro (S.sel [2, 3, 4, 5, 6] rfl rfl) ?_)
    refine qF H <| qr 1 rfl <| qK ?_;clear H a;intro a H
    refine wq_nil ?_
    replace S := boxM.same S (i := 2) rfl (cs' := [.int .i64 (bsum (runB' u J) (d + 1)), .int .i64 (bsum (certB u J) (d + 1))]) (by rw [← bsum_t (f := runB' u J) (n := d) hc4] <;> rfl)
    replace S := (S.sel [0, 1, 2, 3, 4, 5, 6] rfl rfl)
    have hle3 := ownM.le S (i := 0) rfl
    obtain ⟨B2, S, hA2, _⟩ := St.freeze S (i := 2) rfl
    rw [show (lifeS u J d).uses.length + 1 = (usesN u J d).length by unfold usesN; rw [if_pos hc4]; simp] at H
    exact k21 (A3, c3, B2, _) a _ (⟨by rw [usesN_t hc4, List.length_append]; exact hA2, by rw [usesN_t hc4, List.length_append]; exact hle3.1⟩) (S.sel [1, 2, 3, 4, 5] rfl rfl) (H.keep [8, 3, 4, 6, 7, 9, 10, 11, 13, 21, 22] rfl)
   rw [runB_up u J d x hx9] at hc4
   refine wp_skip ?_
   replace S := boxM.same S (i := 0) rfl (cs' := [.int .i64 (bsum (runB' u J) (d + 1)), .int .i64 (bsum (certB u J) (d + 1))]) (by rw [← bsum_f (f := runB' u J) (n := d) hc4] <;> rfl)
   rw [← usesN_f hc4] at H
   exact k21 (A9, c9, B9, wz) a _ (⟨by rw [usesN_f hc4]; exact hrd, by rw [usesN_f hc4]; exact hcap⟩) (S.sel [0, 1, 2, 3, 4] rfl rfl) (H.keep [8, 3, 4, 6, 7, 9, 10, 11, 13, 21, 22] rfl)
  clear SR H S a
  intro xm a wm hp S H
  obtain ⟨A8, c8, B8, wy⟩ := xm
  rw [show Value.bool (decide (J d / 2 ^ (2 : Int).toNat % 2 = 1)) = Value.bool (renw (J d)) from rfl] at H
  replace H := H.keep [3, 4, 6, 7, 8, 9, 10, 11, 13, 21, 22] rfl
  refine sS H fun K25 k25=>sr 1 rfl <| sE ?_;clear H a;intro a H
  refine k25 _ ?_;clear k25 K25
  refine cond_ H rfl (fun hc5 => ?_) (fun hc5 => ?_)
  ·skip
   skip
   refine sO H <| sr 3 rfl <| sE ?_;clear H a;intro a H
   refine k9 _ _ ?_
   refine sO H <| sd (does_add rfl rfl (by unfold i64ok; omega)) <| sr 1 rfl <| sE ?_;clear H a;intro a H
   have hp8 := hp
   exact k6 (g1 - 1) (d + 1, ⟨[], (d : Int), x⟩, none, 0, B8, wy) a _ (by omega) (⟨⟨by omega, by omega⟩, ⟨RdF.nil, Nat.le_refl 0⟩, life_t hc5 hx9⟩) (S.sel [0, 1, 2, 3, 4] rfl rfl) (H.keep [8, 9, 10, 22, 3, 4, 6, 7, 21] rfl)
  skip
  refine wp_skip ?_
  refine k9 _ _ ?_
  refine sO H <| sd (does_add rfl rfl (by unfold i64ok; omega)) <| sr 1 rfl <| sE ?_;clear H a;intro a H
  have hp8 := hp
  exact k6 (g1 - 1) (d + 1, ⟨usesN u J d, (lifeS u J d).born, x⟩, A8, c8, B8, wy) a _ (by omega) (⟨⟨by omega, by omega⟩, hp8, life_f hc5 hx9⟩) (S.sel [0, 1, 2, 3, 4] rfl rfl) (H.keep [8, 9, 10, 22, 3, 4, 6, 7, 21] rfl)
 refine wp_exit ?_
 refine k4 _ _ ?_
 replace H := H.keep [6, 7] rfl
 refine seq_list fun K29 k29 => ?_
 refine ls 1 H <| sd ((does_loadBox agg_101 sz_101 rfl S (i := 0) rfl rfl)) <| sE ?_;clear H a;intro a H
 refine list_store H S (i := 2) rfl rfl rfl rfl sz_101 rfl rfl ?_
 clear H a S;intro _ a S H
 refine k29 _ _ ?_;clear k29 K29
 refine wp_ret ?_
 refine retA (fn := Try.f87) rfl H rfl agg_101 (by exact sz_101) (boxAgg S (i := 2) rfl) ?_
 obtain rfl : d = dy := by omega
 exact ⟨rfl, (S.sel [] rfl rfl)⟩

end Go.Proofs.Ytopmadlgolnmfaa
