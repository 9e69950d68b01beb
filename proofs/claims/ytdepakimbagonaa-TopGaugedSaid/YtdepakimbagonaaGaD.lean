/- GaD. Printed by gen.py. -/
import Derived.Test.YtdepakimbagonaaGaC
import Derived.Test.YtdepakimbagonaaCiI
namespace Go.Proofs.Ytdepakimbagonaa
open Go.RowKit
set_option linter.unusedVariables false
set_option linter.unusedSimpArgs false
set_option maxRecDepth 100000
set_option maxHeartbeats 4000000


theorem gcell_app {l : List Gauge} {g : Gauge} {vs : List Value} (h : ∀ j, j < 4 → vs.getD j undef = g.cell j) : ∀ q j, q < l.length + 1 → j < 4 → capp l.length (gcell l) (fun k' j => ([vs].getD k' []).getD j undef) q j = gcell (l ++ [g]) q j := by
  intro q j hq hj
  unfold capp gcell
  by_cases h1 : q < l.length
  · rw [if_pos h1, List.getD_eq_getElem?_getD, List.getD_eq_getElem?_getD, List.getElem?_append_left h1]
  · rw [if_neg h1]
    have e : q = l.length := by omega
    subst e
    rw [Nat.sub_self, List.getD_eq_getElem?_getD (l := l ++ [g]), List.getElem?_append_right (Nat.le_refl _), Nat.sub_self]
    exact h j hj
/-- What Links leaves. -/
def LnkR (w : World) (n : Nat) (o : Except Int IM) (v : Value) (w' : World) : Prop := match o with
  | .error e => v = .tuple #[.slice none 0 0, .int .i64 e] ∧ St w noF [] w'
  | .ok M => ∃ A' c', v = .tuple #[.slice A' n c', .int .i64 0] ∧ St w noF [ownM 36 2 A' n c' (sp2 (fun k => -(M (k + 1) k)) (fun k => M k (k + 1)))] w'
theorem lnk_err {o : Except Int IM} {e : Int} {w w' : World} {n : Nat} {v : Value} (h : o = .error e) (hw : LnkR w n o v w') : v = .tuple #[.slice none 0 0, .int .i64 e] ∧ St w noF [] w' := by
  subst h; exact hw
theorem lnk_ok {o : Except Int IM} {M : IM} {w w' : World} {n : Nat} {v : Value} (h : o = .ok M) (hw : LnkR w n o v w') : ∃ A' c', v = .tuple #[.slice A' n c', .int .i64 0] ∧ St w noF [ownM 36 2 A' n c' (sp2 (fun k => -(M (k + 1) k)) (fun k => M k (k + 1)))] w' := by
  subst h; exact hw

theorem run_at {c : Chain} {l : List Gauge} {M : IM} {a b : Int} (hk : checkE c l = 0) (hM : weaveW c l yes = some M) (h0 : 0 ≤ a) (hab : a ≤ b) (hb : b ≤ c.links) : runO c l a b = (-(M b.toNat a.toNat), M a.toNat b.toNat, 0) := by
  have h1 : isRunB c a b = true := by unfold isRunB; simp only [Bool.and_eq_true, decide_eq_true_eq]; exact ⟨⟨h0, hab⟩, hb⟩
  unfold runO wholeO
  rw [h1, if_neg (by omega), if_pos rfl, hM]
/-- One gauge more, which the true lengths fit: they stay possible. -/
theorem gauged_law {c : Chain} {l : List Gauge} {f : Nat → Int} {g : Gauge} (hk : checkE c l = 0) (hp : Pos c l f) (hl : l.length < 40) (hg : gaugeOk c.links g = true) (hr : runB f g = true) :
    ∃ M, checkE c (l ++ [g]) = 0 ∧ weaveW c (l ++ [g]) yes = some M ∧ wholeO c (l ++ [g]) true = .ok M ∧ inSpan g.fr.toNat g.to.toNat g.lo g.hi M ∧ ∀ x y, x < c.n → y < c.n → posP f y - posP f x ≤ M x y := by
  obtain ⟨h1, _, h3⟩ := checkE_ok' hk
  have ha : (l ++ [g]).all (gaugeOk c.links) = true := by rw [List.all_append, h3]; simp [hg]
  have hk' : checkE c (l ++ [g]) = 0 := by
    unfold checkE
    rw [if_pos h1, if_pos (by simp; omega), if_pos ha]
  obtain ⟨M, hM, hb⟩ := pos_best hk' ⟨hp.links, by rw [List.all_append, hp.runs]; simp [hr]⟩
  refine ⟨M, hk', hM, by unfold wholeO; rw [if_neg (by omega), if_pos rfl, hM], ?_, hb⟩
  have hw := weave_best (p := yes) h1 ha
  rw [hM] at hw
  have hs := satG_at _ hw.sat l.length (by simp) rfl
  rw [List.getD_eq_getElem?_getD, List.getElem?_append_right (Nat.le_refl _), Nat.sub_self] at hs
  exact hs


theorem law_TopGauged (links pitch limit : Int) (l : List Gauge) (A : Option Addr) (cp : Nat) (xs : List Int) (XA : Option Addr) (xc : Nat) (fr to : Int) (rd : List Rdg) (RA : Option Addr) (rc : Nat) (w : World) (hl : InS w noF 4 A l.length (gcell l)) (hn : l.length ≤ 9223372036854775807) (hx : InS w noF 1 XA xs.length (icl xs)) (hxn : xs.length ≤ 9223372036854775807) (hr : InS w noF 4 RA rd.length (rdcell rd)) (hrn : rd.length ≤ 9223372036854775807) :
    Calls Try.prog 3 [.agg [.int .i64 links, .int .i64 pitch, .int .i64 limit].toArray, .slice A l.length cp, .agg [.slice XA xs.length xc, .int .i64 fr, .int .i64 to, .slice RA rd.length rc].toArray].toArray w (Ret (fun v w' => v = .bool true ∧ St w noF [] w')) := by
 have hmx : maxLen = 9223372036854775807 := rfl
 refine enter Try.func3 rfl Try.ntmps3 rfl (fun a H => ?_)
 have S := St.start w
 refine seq_list fun K1 k1 => ?_
 refine list_box H rfl S rfl rfl ?_;clear H a S;intro b3 _ a hb3 hbw3 S H
 refine list_box H rfl S rfl rfl ?_;clear H a S;intro b5 _ a hb5 hbw5 S H
 refine ls 1 H <| sr 1 rfl <| sE ?_;clear H a;intro a H
 refine k1 _ _ ?_;clear k1 K1
 refine wp_seq_k fun K2 k2 => ?_
 replace H := H.keep [1, 3, 5] rfl
 refine seq_list fun K3 k3 => ?_
 refine ls 1 H <| sr 1 rfl <| sE ?_;clear H a;intro a H
 refine list_call H rfl rfl Try.func5 rfl rfl (law_Far _ _ _ _) ?_;clear H a
 rintro _ _ a ⟨rfl, rfl⟩ H
 refine ls 1 H <| sr 1 rfl <| sE ?_;clear H a;intro a H
 apply list_guard (i := 2) (g := 19) (t := 23) (b := false) 4 H S rfl rfl (by kernel_rfl) (by kernel_rfl) rfl rfl
 case h1 =>
  intro hg3
  have hq3 := hg3; try simp only [o1,o2,o3,o4,o5,o6,o7,o8,o9,oa] at hq3
  refine ls 2 H <| sy hg3 <| sd ((does_loadBox agg_23 sz_23 rfl S (i := 1) rfl rfl)) <| sy hg3 <| sr 1 rfl <| sE ?_;intro a H
  refine list_yes' H rfl rfl (by assumption) ?_
  refine list_call H rfl rfl Try.func6 rfl rfl (ref_Check links pitch limit l A cp _ (hl.now S) hn) ?_
  rintro _ _ a ⟨rfl, S2⟩ H
  replace S := S.call S2;clear S2
  refine ls 1 H <| sy hg3 <| sr 1 rfl <| sE ?_;intro a H
  exact wpList_nil ⟨H.strip 4 rfl rfl, (S.sel [0, 1] rfl rfl)⟩
 clear H a S;intro a _ H S
 refine ls 12 H <| so rfl rfl rfl <| sr 1 rfl <| sg 3 8 25 28 false rfl rfl (fun hg9 => by
     have hq9 := hg9;try simp only [o1,o2,o3,o4,o5,o6,o7,o8,o9,oa] at hq9
     exact sy hg9 <| sf fo_23_0 rfl <| sy hg9 <| sl S 1 one_3 rfl rfl rfl <| sy hg9 <| sr 1 rfl <| sz 3 rfl rfl rfl) <| so rfl rfl rfl <| sr 1 rfl <| sg 3 13 30 33 false rfl rfl (fun hg14 => by
     have hq14 := hg14;try simp only [o1,o2,o3,o4,o5,o6,o7,o8,o9,oa] at hq14
     exact sy hg14 <| sr 1 rfl <| sy hg14 <| sL sl_24 rfl <| sy hg14 <| sr 1 rfl <| sz 3 rfl rfl rfl) <| so rfl rfl rfl <| sr 1 rfl <| sE ?_;clear H a;intro a H
 apply list_guard (i := 18) (g := 35) (t := 41) (b := false) 6 H S rfl rfl (by kernel_rfl) (by kernel_rfl) rfl rfl
 case h1 =>
  intro hg19
  have hq19 := hg19; try simp only [o1,o2,o3,o4,o5,o6,o7,o8,o9,oa] at hq19
  refine ls 4 H <| sy hg19 <| sd ((does_loadBox agg_23 sz_23 rfl S (i := 1) rfl rfl)) <| sy hg19 <| sr 1 rfl <| sy hg19 <| sf fo_28_0 rfl <| sy hg19 <| sl S 0 one_25 rfl rfl rfl <| sE ?_;intro a H
  refine list_yes' H rfl rfl (by assumption) ?_
  refine list_call H rfl rfl Try.func7 rfl rfl (law_Possible links pitch limit l A cp XA xs.length xc (fnL xs) _ (hl.now S) hn (hx.now S) hxn (by omega)) ?_
  rintro _ _ a ⟨rfl, S2⟩ H
  replace S := S.call S2;clear S2
  refine ls 1 H <| sy hg19 <| sr 1 rfl <| sE ?_;intro a H
  exact wpList_nil ⟨H.strip 6 rfl rfl, (S.sel [0, 1] rfl rfl)⟩
 clear H a S;intro a _ H S
 refine ls 20 H <| so rfl rfl rfl <| sr 1 rfl <| sg 3 26 43 46 false rfl rfl (fun hg27 => by
     have hq27 := hg27;try simp only [o1,o2,o3,o4,o5,o6,o7,o8,o9,oa] at hq27
     exact sy hg27 <| sf fo_28_1 rfl <| sy hg27 <| sl S 0 one_3 rfl rfl rfl <| sy hg27 <| sr 1 rfl <| sz 3 rfl rfl rfl) <| so rfl rfl rfl <| sr 1 rfl <| sg 5 31 48 53 false rfl rfl (fun hg32 => by
     have hq32 := hg32;try simp only [o1,o2,o3,o4,o5,o6,o7,o8,o9,oa] at hq32
     exact sy hg32 <| sf fo_28_1 rfl <| sy hg32 <| sl S 0 one_3 rfl rfl rfl <| sy hg32 <| sf fo_28_2 rfl <| sy hg32 <| sl S 0 one_3 rfl rfl rfl <| sy hg32 <| sr 1 rfl <| sz 5 rfl rfl rfl) <| so rfl rfl rfl <| sr 1 rfl <| sg 5 38 55 60 false rfl rfl (fun hg39 => by
     have hq39 := hg39;try simp only [o1,o2,o3,o4,o5,o6,o7,o8,o9,oa] at hq39
     exact sy hg39 <| sf fo_28_2 rfl <| sy hg39 <| sl S 0 one_3 rfl rfl rfl <| sy hg39 <| sf fo_23_0 rfl <| sy hg39 <| sl S 1 one_3 rfl rfl rfl <| sy hg39 <| sr 1 rfl <| sz 5 rfl rfl rfl) <| so rfl rfl rfl <| sE ?_;clear H a;intro a H
 refine k3 _ _ ?_;clear k3 K3
 refine cond_ H rfl (fun hc1 => ?_) (fun hc1 => ?_)
 ·skip
  try simp only [o1,o2,o3,o4,o5,o6,o7,o8,o9,oa] at hc1
  replace H := H.keep [] rfl
  refine seq_list fun K4 k4 => ?_
  refine list_call H rfl rfl Try.func8 rfl rfl (top_measures _) ?_;clear H a
  rintro _ _ a ⟨rfl, S2⟩ H
  replace S := S.call S2;clear S2
  refine ls 1 H <| sr 1 rfl <| sE ?_;clear H a;intro a H
  refine k4 _ _ ?_;clear k4 K4
  refine wp_ret ?_
  refine ret1 (fn := Try.f3) rfl H rfl ?_
  exact ⟨rfl, (S.sel [] rfl rfl)⟩
 try simp only [o1,o2,o3,o4,o5,o6,o7,o8,o9,oa] at hc1
 obtain ⟨⟨⟨⟨⟨⟨⟨hc11, hkk⟩, hl10⟩, hl40⟩, hpo⟩, hf0⟩, hft⟩, hto⟩ := hc1
 obtain ⟨hck, _, hga⟩ := checkE_ok' hkk
 have hck2 := hck
 unfold chainOk at hck2
 simp only [decide_eq_true_eq] at hck2
 obtain ⟨hpl, hps⟩ := posB_iff.1 hpo
 dsimp only at hpl
 obtain ⟨ia, rfl⟩ := Int.eq_ofNat_of_zero_le hf0
 obtain ⟨ib, rfl⟩ := Int.eq_ofNat_of_zero_le (show 0 ≤ to by omega)
 have hfw : ∀ k, k < xs.length → 0 ≤ fnL xs k ∧ fnL xs k ≤ 100000 := fun k hk => by have := hps.links k (by dsimp only; omega); dsimp only at this; omega
 refine wp_skip ?_
 refine k2 _ _ ?_
 refine sS H fun K5 k5=>sr 1 rfl <| sE ?_;clear H a;intro a H
 refine k5 _ ?_;clear k5 K5
 refine wp_seq_k fun K6 k6 => ?_
 refine sS H fun K7 k7=>sf fo_28_1 rfl <| sl S 0 one_3 rfl rfl rfl <| sr 1 rfl <| sE ?_;clear H a;intro a H
 refine k7 _ ?_;clear k7 K7
 refine wp_block ?_
 refine loop_st (X := Nat) (R0 := _) [1, 3, 5] H rfl (fun d => [(7, .int .i64 (sumR (fnL xs) ia d)), (8, .int .i64 ((ia + d : Nat) : Int))]) (fun d => []) (fun g d => d ≤ ib - ia ∧ g + d = ib - ia) (ib - ia) 0 ?_ (S.sel [0, 1] rfl rfl) (H.keep [7, 8, 1, 3, 5] rfl) ?_
 · exact ⟨by omega, by omega⟩
 clear H S a
 intro g1 x1 a w1 hp S H K8 k8
 obtain ⟨d, rfl⟩ : ∃ y, y = x1 := ⟨_, rfl⟩
 refine wp_seq_k fun K9 k9 => ?_
 refine sS H fun K10 k10=>sr 1 rfl <| sf fo_28_2 rfl <| sl S 0 one_3 rfl rfl rfl <| sr 1 rfl <| sE ?_;clear H a;intro a H
 refine k10 _ ?_;clear k10 K10
 refine condL H rfl (fun hc2 => ?_) (fun hc2 => ?_)
 ·skip
  refine wp_skip ?_
  refine k9 _ _ ?_
  refine wp_seq_k fun K11 k11 => ?_
  refine wp_block ?_
  have hsb := sumR_bd hfw ia d (by omega); have hfk := hfw (ia + d) (by omega); have hfx : fnL xs (ia + d) = xs.getD (ia + d) 0 := rfl
  replace H := H.keep [1, 3, 5, 7, 8] rfl
  refine sO H <| sr 1 rfl <| sf fo_28_0 rfl <| sl S 0 one_25 rfl rfl rfl <| sr 1 rfl <| si sl_25 sz_3 rfl rfl (hx.adr (by omega)) (by omega) <| slm one_3 rfl (hx.rd S (by omega) (by omega)) <| sd (does_add rfl rfl (by unfold i64ok; omega)) <| sr 1 rfl <| sE ?_;clear H a;intro a H
  refine k11 _ _ ?_
  replace H := H.keep [1, 3, 5, 7, 8] rfl
  refine sO H <| sr 1 rfl <| sd (does_add rfl rfl (by unfold i64ok; omega)) <| sr 1 rfl <| sE ?_;clear H a;intro a H
  exact k8 (g1 - 1) (d + 1) a _ (by omega) (by omega) (S.sel [0, 1] rfl rfl) (H.keep [7, 8, 1, 3, 5] rfl)
 refine wp_exit ?_
 refine k6 _ _ ?_
 refine wp_seq_k fun K14 k14 => ?_
 obtain rfl : d = ib - ia := by omega
 refine seq_list fun K15 k15 => ?_
 refine ls 3 H <| sf fo_28_3 rfl <| sl S 0 one_26 rfl rfl rfl <| sr 1 rfl <| sE ?_;clear H a;intro a H
 refine list_call H rfl rfl Try.func9 rfl rfl (top_allow rd RA rc _ _ (hr.now S) hrn) ?_;clear H a
 rintro _ _ a ⟨rfl, S2⟩ H
 replace S := S.call S2;clear S2
 refine ls 1 H <| sr 1 rfl <| sE ?_;clear H a;intro a H
 refine k15 _ _ ?_;clear k15 K15
 refine cond_ H rfl (fun hc3 => ?_) (fun hc3 => ?_)
 ·skip
  try simp only [o1,o2,o3,o4,o5,o6,o7,o8,o9,oa] at hc3
  replace H := H.keep [] rfl
  refine seq_list fun K16 k16 => ?_
  refine list_call H rfl rfl Try.func8 rfl rfl (top_measures _) ?_;clear H a
  rintro _ _ a ⟨rfl, S2⟩ H
  replace S := S.call S2;clear S2
  refine ls 1 H <| sr 1 rfl <| sE ?_;clear H a;intro a H
  refine k16 _ _ ?_;clear k16 K16
  refine wp_ret ?_
  refine ret1 (fn := Try.f3) rfl H rfl ?_
  exact ⟨rfl, (S.sel [] rfl rfl)⟩
 try simp only [o1,o2,o3,o4,o5,o6,o7,o8,o9,oa] at hc3
 have hrk : rdE rd = 0 ∧ 0 < rd.length ∧ rd.length ≤ 8 ∧ rd.all (alB (sumR (fnL xs) ia (ib - ia))) = true := by unfold allowB at hc3; simp only [decide_eq_true_eq] at hc3; exact ⟨hc3.2.2.1, hc3.1, hc3.2.1, hc3.2.2.2⟩
 have hNb := sumR_bd hfw ia (ib - ia) (by omega)
 have hcom := com_in hrk.2.2.2 (rd_ok0 hrk.1).2 (by omega) rd.length (Nat.le_refl _)
 have hcm := hcom.2.2 hrk.2.1
 obtain ⟨M, hM1, hM, hW, hsp, hbest⟩ := gauged_law (c := ⟨links, pitch, limit⟩) (l := l) (f := fnL xs) (g := (⟨(ia : Int), (ib : Int), max 0 (comL rd rd.length), comH rd rd.length⟩ : Gauge)) hkk hps (by omega) (by unfold gaugeOk; simp only [decide_eq_true_eq]; omega) (by unfold runB; simp only [decide_eq_true_eq, Int.toNat_natCast]; omega)
 have hll : (l ++ [(⟨(ia : Int), (ib : Int), max 0 (comL rd rd.length), comH rd rd.length⟩ : Gauge)]).length = l.length + 1 := by simp
 have hlg9 : (l ++ [(⟨(ia : Int), (ib : Int), max 0 (comL rd rd.length), comH rd rd.length⟩ : Gauge)]).length ≤ 9223372036854775807 := by omega
 have hrun : runO ⟨links, pitch, limit⟩ (l ++ [(⟨(ia : Int), (ib : Int), max 0 (comL rd rd.length), comH rd rd.length⟩ : Gauge)]) ia ib = (-(M ib ia), M ia ib, 0) := by
   have := run_at (a := (ia : Int)) (b := (ib : Int)) hM1 hM (by omega) (by omega) (by dsimp only; omega)
   rw [Int.toNat_natCast, Int.toNat_natCast] at this
   exact this
 unfold inSpan at hsp
 simp only [Int.toNat_natCast] at hsp
 have hbr1 := hbest ia ib (by unfold Chain.n; dsimp only; omega) (by unfold Chain.n; dsimp only; omega)
 have hbr2 := hbest ib ia (by unfold Chain.n; dsimp only; omega) (by unfold Chain.n; dsimp only; omega)
 have hsr := sumR_split (fnL xs) ia (ib - ia)
 rw [show ia + (ib - ia) = ib by omega] at hsr
 refine wp_skip ?_
 refine k14 _ _ ?_
 replace H := H.keep [1, 3, 5, 7] rfl
 refine seq_list fun K17 k17 => ?_
 refine ls 2 H <| sf fo_28_3 rfl <| sl S 0 one_26 rfl rfl rfl <| sE ?_;clear H a;intro a H
 refine list_call H rfl rfl Try.func10 rfl rfl (fau_Truth rd RA rc _ (hr.now S) (by omega) hrk.1 hrk.2.1 (by omega)) ?_;clear H a
 rintro _ _ a ⟨rfl, S2⟩ H
 replace S := S.call S2;clear S2
 refine ls 3 H <| sr 3 rfl <| sE ?_;clear H a;intro a H
 refine list_alloc H rfl S ze_36 ?_;clear H a S;intro b9 _ a hb9 hbw9 S H
 refine list_store H S (i := 0) rfl rfl rfl rfl sz_36 rfl rfl ?_
 clear H a S;intro _ a S H
 refine ls 1 H <| sr 1 rfl <| sE ?_;clear H a;intro a H
 refine k17 _ _ ?_;clear k17 K17
 refine wp_seq_k fun K18 k18 => ?_
 replace H := H.keep [1, 3, 5, 7, 9, 10] rfl
 refine sS H fun K19 k19=>sr 3 rfl <| sg 4 2 92 96 false rfl rfl (fun hg3 => by
     have hq3 := hg3;try simp only [o1,o2,o3,o4,o5,o6,o7,o8,o9,oa] at hq3
     exact sy hg3 <| sr 1 rfl <| sy hg3 <| sf fo_36_0 rfl <| sy hg3 <| sl S 0 one_3 rfl rfl rfl <| sy hg3 <| sr 1 rfl <| sz 4 rfl rfl rfl) <| so rfl rfl rfl <| sr 1 rfl <| sg 4 8 98 102 false rfl rfl (fun hg9 => by
     have hq9 := hg9;try simp only [o1,o2,o3,o4,o5,o6,o7,o8,o9,oa] at hq9
     exact sy hg9 <| sr 1 rfl <| sy hg9 <| sf fo_36_1 rfl <| sy hg9 <| sl S 0 one_3 rfl rfl rfl <| sy hg9 <| sr 1 rfl <| sz 4 rfl rfl rfl) <| so rfl rfl rfl <| sE ?_;clear H a;intro a H
 refine k19 _ ?_;clear k19 K19
 refine cond_ H rfl (fun hc4 => ?_) (fun hc4 => ?_)
 ·skip
  try simp only [o1,o2,o3,o4,o5,o6,o7,o8,o9,oa] at hc4
  exfalso; simp only [not_true_eq_false, false_or] at hc4; omega
 try simp only [o1,o2,o3,o4,o5,o6,o7,o8,o9,oa] at hc4
 refine wp_skip ?_
 refine k18 _ _ ?_
 replace H := H.keep [1, 3, 5, 7, 9] rfl
 refine seq_list fun K20 k20 => ?_
 refine ls 4 H <| sf fo_36_0 rfl <| sl S 0 one_3 rfl rfl rfl <| sd (does_max rfl rfl) <| sf fo_36_0 rfl <| sE ?_;clear H a;intro a H
 refine list_store H S (i := 0) rfl rfl rfl rfl sz_3 rfl rfl ?_
 clear H a S;intro _ a S H
 refine k20 _ _ ?_;clear k20 K20
 have SR := (S.sel [0, 1, 2] rfl rfl)
 refine meet_sr (X := Option Addr × Nat) [3, 5, 7, 9] H rfl (fun ⟨A9, c9⟩ => [(11, .slice A9 (l ++ [(⟨(ia : Int), (ib : Int), max 0 (comL rd rd.length), comH rd rd.length⟩ : Gauge)]).length c9)]) (fun ⟨A9, c9⟩ => [ownM 41 4 A9 (l ++ [(⟨(ia : Int), (ib : Int), max 0 (comL rd rd.length), comH rd rd.length⟩ : Gauge)]).length c9 (gcell (l ++ [(⟨(ia : Int), (ib : Int), max 0 (comL rd rd.length), comH rd rd.length⟩ : Gauge)]))]) (fun ⟨A9, c9⟩ => True) SR (fun K21 k21 => ?_) ?_
 ·skip
  replace H := H.keep [1, 3, 5, 7, 9] rfl
  replace S := S.drew
  refine one_wt 999999 (.q 0 (.q 2 (.q 3 (.q 4 (.q 5 (.q 6 (.q 7 (.b2 1 (.e 8 (.e 9 (.q 10 .nil))) 8 (.e 1 (.e 9 (.q 10 .nil))))))))))) (by kernel_rfl) (by kernel_rfl) (S.sel [0, 1, 2] rfl rfl) ?_
  refine wt_does H rfl rfl (fun _ S => does_move rfl) ?_;clear H a;intro a H
  refine wt_does H rfl rfl (fun _ S => (does_field fo_28_1 rfl)) ?_;clear H a;intro a H
  refine wt_does H rfl rfl (fun _ S => does_load one_3 rfl (boxM.rd S (i := 1) rfl rfl)) ?_;clear H a;intro a H
  refine wt_does H rfl rfl (fun _ S => (does_field fo_28_2 rfl)) ?_;clear H a;intro a H
  refine wt_does H rfl rfl (fun _ S => does_load one_3 rfl (boxM.rd S (i := 1) rfl rfl)) ?_;clear H a;intro a H
  refine wt_does H rfl rfl (fun _ S => (does_loadBox agg_36 sz_36 rfl S (i := 0) rfl rfl)) ?_;clear H a;intro a H
  refine wt_does H rfl rfl (fun _ S => does_build bt_41 rfl rfl) ?_;clear H a;intro a H
  refine wt_b2 rfl rfl ?_ ?_
  ·skip
   refine list_call H rfl rfl Try.func11 rfl rfl (ref_CopyGauges l A cp _ (hl.now S) (by omega)) ?_;clear H a
   rintro _ _ a ⟨A2, c2, rfl, S2⟩ H
   replace S := S.call S2;clear S2
   refine wpList_nil (And.intro (Or.inr (S.sel [1, 2, 3] rfl rfl)) ?_)
   refine wt_eff rfl ?_
   refine list_build' H rfl S sl_24 sz_41 ze_41 rfl rfl rfl rfl rfl rfl rfl rfl rfl ?_;clear H a S;intro A1 _ a hA1 S H
   refine wpList_nil (And.intro (Or.inr (S.sel [2, 3, 4] rfl rfl)) ?_)
   refine wt_eff rfl ?_
   refine list_append H rfl S sl_24 sz_41 ze_41 by_41 rfl rfl (i := 1) rfl rfl rfl (ownM.inS S (i := 0) rfl) (one_vs (four rfl rfl rfl rfl)) (by omega) (by omega) ?_;clear H a S;intro A2 c2 _ a S H
   replace S := S.recell (i := 1) rfl (gcell_app (g := (⟨(ia : Int), (ib : Int), max 0 (comL rd rd.length), comH rd rd.length⟩ : Gauge)) (four rfl rfl rfl rfl))
   rw [← hll] at S H
   refine wpList_nil (And.intro (Or.inr (S.sel [2, 3, 4] rfl rfl)) ?_)
   refine wt_does H rfl rfl (fun _ S => does_assign rfl) ?_;clear H a;intro a H
   refine wt_nil ?_
   exact k21 (_, _) a _ (trivial) (S.sel [1, 2, 3, 4] rfl rfl) (H.keep [11, 3, 5, 7, 9] rfl)
  ·skip
   refine list_build' H rfl S sl_24 sz_41 ze_41 rfl rfl rfl rfl rfl rfl rfl rfl rfl ?_;clear H a S;intro A3 _ a hA3 S H
   refine wpList_nil (And.intro (Or.inr (S.sel [1, 2, 3] rfl rfl)) ?_)
   refine wt_eff rfl ?_
   refine list_call H rfl rfl Try.func11 rfl rfl (ref_CopyGauges l A cp _ (hl.now S) (by omega)) ?_;clear H a
   rintro _ _ a ⟨A2, c2, rfl, S2⟩ H
   replace S := S.call S2;clear S2
   refine wpList_nil (And.intro (Or.inr (S.sel [2, 3, 4] rfl rfl)) ?_)
   refine wt_eff rfl ?_
   refine list_append H rfl S sl_24 sz_41 ze_41 by_41 rfl rfl (i := 0) rfl rfl rfl (ownM.inS S (i := 1) rfl) (one_vs (four rfl rfl rfl rfl)) (by omega) (by omega) ?_;clear H a S;intro A4 c4 _ a S H
   replace S := S.recell (i := 0) rfl (gcell_app (g := (⟨(ia : Int), (ib : Int), max 0 (comL rd rd.length), comH rd rd.length⟩ : Gauge)) (four rfl rfl rfl rfl))
   rw [← hll] at S H
   refine wpList_nil (And.intro (Or.inr (S.sel [2, 3, 4] rfl rfl)) ?_)
   refine wt_does H rfl rfl (fun _ S => does_assign rfl) ?_;clear H a;intro a H
   refine wt_nil ?_
   exact k21 (_, _) a _ (trivial) (S.sel [0, 2, 3, 4] rfl rfl) (H.keep [11, 3, 5, 7, 9] rfl)
 clear SR H S a
 intro xm a wm hp S H
 obtain ⟨A9, c9⟩ := xm
 replace H := H.keep [3, 5, 7, 9, 11] rfl
 refine seq_list fun K23 k23 => ?_
 refine ls 2 H <| sd ((does_loadBox agg_23 sz_23 rfl S (i := 3) rfl rfl)) <| sr 1 rfl <| sE ?_;clear H a;intro a H
 refine list_call H rfl rfl Try.func12 rfl rfl (ret_imp (chain_Links links pitch limit (l ++ [(⟨(ia : Int), (ib : Int), max 0 (comL rd rd.length), comH rd rd.length⟩ : Gauge)]) _ _ _ (ownM.inS S (i := 0) rfl) hlg9) (fun _ _ h => lnk_ok hW h)) ?_;clear H a
 rintro _ _ a ⟨A5, c5, rfl, S2⟩ H
 replace S := S.call S2;clear S2
 refine ls 5 H <| sr 5 rfl <| sE ?_;clear H a;intro a H
 refine k23 _ _ ?_;clear k23 K23
 replace H := H.keep [3, 5, 7, 9, 11, 12, 13] rfl
 refine seq_list fun K24 k24 => ?_
 refine ls 6 H <| sd ((does_loadBox agg_23 sz_23 rfl S (i := 4) rfl rfl)) <| sr 1 rfl <| sf fo_28_1 rfl <| sl S 3 one_3 rfl rfl rfl <| sf fo_28_2 rfl <| sl S 3 one_3 rfl rfl rfl <| sE ?_;clear H a;intro a H
 refine list_call H rfl rfl Try.func13 rfl rfl (chain_Run links pitch limit (l ++ [(⟨(ia : Int), (ib : Int), max 0 (comL rd rd.length), comH rd rd.length⟩ : Gauge)]) _ _ (ia : Int) (ib : Int) _ (ownM.inS S (i := 1) rfl) hlg9) ?_;clear H a
 rintro _ _ a ⟨rfl, S2⟩ H
 replace S := S.call S2;clear S2
 rw [hrun] at H; simp only [runV] at H
 refine ls 3 H <| sr 3 rfl <| sE ?_;clear H a;intro a H
 refine list_alloc H rfl S ze_36 ?_;clear H a S;intro b14 _ a hb14 hbw14 S H
 refine list_store H S (i := 0) rfl rfl rfl rfl sz_36 rfl rfl ?_
 clear H a S;intro _ a S H
 refine ls 1 H <| sr 1 rfl <| sE ?_;clear H a;intro a H
 refine k24 _ _ ?_;clear k24 K24
 refine wp_seq_k fun K25 k25 => ?_
 replace H := H.keep [3, 5, 7, 9, 12, 13, 14, 15] rfl
 refine sS H fun K26 k26=>sr 3 rfl <| sg 2 2 136 138 false rfl rfl (fun hg3 => by
     have hq3 := hg3;try simp only [o1,o2,o3,o4,o5,o6,o7,o8,o9,oa] at hq3
     exact sy hg3 <| sr 1 rfl <| sy hg3 <| sr 1 rfl <| sz 2 rfl rfl rfl) <| so rfl rfl rfl <| sr 1 rfl <| sg 5 6 140 145 false rfl rfl (fun hg7 => by
     have hq7 := hg7;try simp only [o1,o2,o3,o4,o5,o6,o7,o8,o9,oa] at hq7
     exact sy hg7 <| sr 1 rfl <| sy hg7 <| sL sl_42 rfl <| sy hg7 <| sf fo_23_0 rfl <| sy hg7 <| sl S 5 one_3 rfl rfl rfl <| sy hg7 <| sr 1 rfl <| sz 5 rfl rfl rfl) <| so rfl rfl rfl <| sr 1 rfl <| sg 5 13 147 152 false rfl rfl (fun hg14 => by
     have hq14 := hg14;try simp only [o1,o2,o3,o4,o5,o6,o7,o8,o9,oa] at hq14
     exact sy hg14 <| sf fo_36_0 rfl <| sy hg14 <| sl S 0 one_3 rfl rfl rfl <| sy hg14 <| sf fo_36_0 rfl <| sy hg14 <| sl S 3 one_3 rfl rfl rfl <| sy hg14 <| sr 1 rfl <| sz 5 rfl rfl rfl) <| so rfl rfl rfl <| sr 1 rfl <| sg 5 20 154 159 false rfl rfl (fun hg21 => by
     have hq21 := hg21;try simp only [o1,o2,o3,o4,o5,o6,o7,o8,o9,oa] at hq21
     exact sy hg21 <| sf fo_36_1 rfl <| sy hg21 <| sl S 0 one_3 rfl rfl rfl <| sy hg21 <| sf fo_36_1 rfl <| sy hg21 <| sl S 3 one_3 rfl rfl rfl <| sy hg21 <| sr 1 rfl <| sz 5 rfl rfl rfl) <| so rfl rfl rfl <| sr 1 rfl <| sg 4 27 161 165 false rfl rfl (fun hg28 => by
     have hq28 := hg28;try simp only [o1,o2,o3,o4,o5,o6,o7,o8,o9,oa] at hq28
     exact sy hg28 <| sr 1 rfl <| sy hg28 <| sf fo_36_0 rfl <| sy hg28 <| sl S 0 one_3 rfl rfl rfl <| sy hg28 <| sr 1 rfl <| sz 4 rfl rfl rfl) <| so rfl rfl rfl <| sr 1 rfl <| sg 4 33 167 171 false rfl rfl (fun hg34 => by
     have hq34 := hg34;try simp only [o1,o2,o3,o4,o5,o6,o7,o8,o9,oa] at hq34
     exact sy hg34 <| sr 1 rfl <| sy hg34 <| sf fo_36_1 rfl <| sy hg34 <| sl S 0 one_3 rfl rfl rfl <| sy hg34 <| sr 1 rfl <| sz 4 rfl rfl rfl) <| so rfl rfl rfl <| sE ?_;clear H a;intro a H
 refine k26 _ ?_;clear k26 K26
 refine cond_ H rfl (fun hc5 => ?_) (fun hc5 => ?_)
 ·skip
  try simp only [o1,o2,o3,o4,o5,o6,o7,o8,o9,oa] at hc5
  exfalso; simp only [not_true_eq_false, false_or] at hc5; omega
 try simp only [o1,o2,o3,o4,o5,o6,o7,o8,o9,oa] at hc5
 refine wp_skip ?_
 refine k25 _ _ ?_
 refine wp_seq_k fun K27 k27 => ?_
 replace H := H.keep [3, 5, 12] rfl
 refine sS H fun K28 k28=>sr 1 rfl <| sE ?_;clear H a;intro a H
 refine k28 _ ?_;clear k28 K28
 refine wp_block ?_
 refine loop_st (X := Nat) (R0 := _) [3, 5, 12] H rfl (fun k => [(16, .int .i64 (k : Int))]) (fun k => []) (fun g k => k ≤ links.toNat ∧ g + k = links.toNat) (links.toNat) 0 ?_ (S.sel [0, 1, 2, 3, 4, 5] rfl rfl) (H.keep [16, 3, 5, 12] rfl) ?_
 · exact ⟨by omega, by omega⟩
 clear H S a
 intro g2 x2 a w2 hp S H K29 k29
 obtain ⟨k, rfl⟩ : ∃ y, y = x2 := ⟨_, rfl⟩
 refine wp_seq_k fun K30 k30 => ?_
 refine sS H fun K31 k31=>sr 1 rfl <| sf fo_23_0 rfl <| sl S 5 one_3 rfl rfl rfl <| sr 1 rfl <| sE ?_;clear H a;intro a H
 refine k31 _ ?_;clear k31 K31
 refine condL H rfl (fun hc6 => ?_) (fun hc6 => ?_)
 ·skip
  refine wp_skip ?_
  refine k30 _ _ ?_
  refine wp_seq_k fun K32 k32 => ?_
  refine wp_block ?_
  replace H := H.keep [3, 5, 12, 16] rfl
  replace S := S.drew
  refine sD H fun K33 k33=>sf fo_28_0 rfl <| sl S 4 one_25 rfl rfl rfl <| sr 1 rfl <| si sl_25 sz_3 rfl rfl (hx.adr (by omega)) (by omega) <| slm one_3 rfl (hx.rd S (by omega) (by omega)) <| sr 2 rfl <| si sl_42 sz_36 rfl rfl (ownM.adr S (i := 1) rfl (by omega)) (by omega) <| sp fo_36_0 rfl <| slm one_3 rfl (ownM.rd S (i := 1) rfl (by omega) (by omega)) <| sr 2 rfl <| sg 11 11 190 201 false rfl rfl (fun hg12 => by
      have hq12 := hg12;try simp only [o1,o2,o3,o4,o5,o6,o7,o8,o9,oa] at hq12
      exact sy hg12 <| sf fo_28_0 rfl <| sy hg12 <| sl S 4 one_25 rfl rfl rfl <| sy hg12 <| sr 1 rfl <| sy hg12 <| si sl_25 sz_3 rfl rfl (hx.adr (by omega)) (by omega) <| sy hg12 <| slm one_3 rfl (hx.rd S (by omega) (by omega)) <| sy hg12 <| sr 1 rfl <| sy hg12 <| sr 1 rfl <| sy hg12 <| si sl_42 sz_36 rfl rfl (ownM.adr S (i := 1) rfl (by omega)) (by omega) <| sy hg12 <| sp fo_36_1 rfl <| sy hg12 <| slm one_3 rfl (ownM.rd S (i := 1) rfl (by omega) (by omega)) <| sy hg12 <| sr 1 rfl <| sz 11 rfl rfl rfl) <| so rfl rfl rfl <| sE ?_;clear H a;intro a H
  refine k33 _ ?_;clear k33 K33
  refine cond_ H rfl (fun hc7 => ?_) (fun hc7 => ?_)
  ·skip
   try simp only [o1,o2,o3,o4,o5,o6,o7,o8,o9,oa] at hc7
   exfalso; have h8 := hbest k (k + 1) (by show _ < links.toNat + 1; omega) (by show _ < links.toNat + 1; omega); have h9 := hbest (k + 1) k (by show _ < links.toNat + 1; omega) (by show _ < links.toNat + 1; omega); rw [posP_succ] at h8 h9; have h7 : fnL xs k = xs.getD k 0 := rfl; omega
  try simp only [o1,o2,o3,o4,o5,o6,o7,o8,o9,oa] at hc7
  refine wp_skip ?_
  refine k32 _ _ ?_
  replace H := H.keep [3, 5, 12, 16] rfl
  refine sO H <| sr 1 rfl <| sd (does_add rfl rfl (by unfold i64ok; omega)) <| sr 1 rfl <| sE ?_;clear H a;intro a H
  exact k29 (g2 - 1) (k + 1) a _ (by omega) (by omega) (S.sel [0, 1, 2, 3, 4, 5] rfl rfl) (H.keep [16, 3, 5, 12] rfl)
 refine wp_exit ?_
 refine k27 _ _ ?_
 refine seq_list fun K35 k35 => ?_
 refine list_call H rfl rfl Try.func8 rfl rfl (top_measures _) ?_;clear H a
 rintro _ _ a ⟨rfl, S2⟩ H
 replace S := S.call S2;clear S2
 refine ls 1 H <| sr 1 rfl <| sE ?_;clear H a;intro a H
 refine k35 _ _ ?_;clear k35 K35
 refine wp_ret ?_
 refine ret1 (fn := Try.f3) rfl H rfl ?_
 exact ⟨rfl, (S.sel [] rfl rfl)⟩

end Go.Proofs.Ytdepakimbagonaa
