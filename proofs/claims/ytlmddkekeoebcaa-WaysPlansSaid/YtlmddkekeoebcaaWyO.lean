/- WyO. Printed by gen.py. -/
import Derived.Test.YtlmddkekeoebcaaWyI
import Derived.Test.YtlmddkekeoebcaaRfG
import Derived.Test.YtlmddkekeoebcaaPlo
namespace Go.Proofs.Ytlmddkekeoebcaa
open Go.RowKit
set_option linter.unusedVariables false
set_option linter.unusedSimpArgs false
set_option maxRecDepth 100000
set_option maxHeartbeats 4000000


theorem ze810 : Zero Try.prog 133 (List.replicate 810 (.int .i64 0)) := by unfold Zero; kernel_rfl
section
variable {P : Program} {L : List (Nat × Value)} {w : World} {d : Option Nat} {ty : TypeId} {pos : String} {af : Array Edge} {g : Option (Nat × Bool)}
theorem does_isNil {x : Operand} {t e n c : Nat} {yt : TypeId} {A : Option Addr} (hu : SlT P t e) (hx : ev L x = some (.slice A n c)) : Does P L ⟨d, .binOp .eql t x (.const (.slice none 0 0)) yt, ty, pos, af, g⟩ w (.bool A.isNone) := fun ρ hρ => by
  have h2 := hρ (.const (.slice none 0 0)) _ rfl
  have e2 : ∀ D : Nat, (Op.equalIn (D + 1) t (.slice A n c) (.slice none 0 0)).run P w = .ok A.isNone w := fun D => by
    cases A <;> simp [Op.equalIn, run_und hu]
  have e3 : (binOp .eql t (.slice A n c) (.slice none 0 0)).run P w = .ok (.bool A.isNone) w := by
    simp only [binOp, Op.equal, Sem.run_bind]
    rw [show Op.maxDepth = 9999 + 1 from rfl, e2]
    rfl
  simp only [execOp, hρ _ _ hx, h2]
  simp [eqGuard, Op.eqGuardIn, e3]
end
section
variable {P T : Nat} {ps : List Psg} {xs : List Int} {out : Int} {pe : List Int} {l : List Mv}
theorem totb_bd {i : Nat} {m : Mv} (h : ∀ q, q < i → mvOk ps xs out (l.getD q Mv.zero) = true) : ∀ {n : Nat}, n ≤ i → 0 ≤ totK l m n ∧ totK l m n ≤ 1000 * n := by
  intro n
  induction n with
  | zero => intro _; exact ⟨Int.le_refl 0, Int.le_refl 0⟩
  | succ n ih =>
    intro hn
    have h1 := ih (by omega)
    have h2 := (mvOk_iff.1 (h n (by omega))).1.2.2
    have h3 : totK l m (n + 1) = totK l m n + if sameK (l.getD n Mv.zero) m = true then min (l.getD n Mv.zero).many 1000 else 0 := rfl
    rw [h3]
    split <;> omega
theorem wnb_bd {i t p : Nat} (h : ∀ q, q < i → mvOk ps xs out (l.getD q Mv.zero) = true) : ∀ {n : Nat}, n ≤ i → 0 ≤ wnS l t p n ∧ wnS l t p n ≤ 1000 * n := by
  intro n
  induction n with
  | zero => intro _; exact ⟨Int.le_refl 0, Int.le_refl 0⟩
  | succ n ih =>
    intro hn
    have h1 := ih (by omega)
    have h2 := (mvOk_iff.1 (h n (by omega))).1.2.2
    have h3 : wnS l t p (n + 1) = wnS l t p n + wnM (l.getD n Mv.zero) t p := rfl
    have h4 : 0 ≤ wnM (l.getD n Mv.zero) t p ∧ wnM (l.getD n Mv.zero) t p ≤ 1000 := by unfold wnM; split <;> omega
    omega
theorem cmb_bd {i t p : Nat} (h : ∀ q, q < i → mvOk ps xs out (l.getD q Mv.zero) = true) : ∀ {n : Nat}, n ≤ i → 0 ≤ cmS ps out l t p n ∧ cmS ps out l t p n ≤ 1000 * n := by
  intro n
  induction n with
  | zero => intro _; exact ⟨Int.le_refl 0, Int.le_refl 0⟩
  | succ n ih =>
    intro hn
    have h1 := ih (by omega)
    have h2 := (mvOk_iff.1 (h n (by omega))).1.2.2
    have h3 : cmS ps out l t p (n + 1) = cmS ps out l t p n + cmM ps out (l.getD n Mv.zero) t p := rfl
    have h4 : 0 ≤ cmM ps out (l.getD n Mv.zero) t p ∧ cmM ps out (l.getD n Mv.zero) t p ≤ 1000 := by unfold cmM; split <;> omega
    omega
theorem over_bad {i : Nat} (hi : i < l.length) (h : (mvP ps (l.getD i Mv.zero)).wide < totK l (l.getD i Mv.zero) (i + 1)) : planB ps xs out pe l P = false := by
  by_cases hg : goodM l
  · refine plan_tot hi fun h2 => ?_
    have := tot_mono (m := l.getD i Mv.zero) hg (n := i + 1) (n' := l.length) (by omega) (Nat.le_refl _)
    omega
  · exact not_good (q := 0) hg
theorem neg_bad (h : ∀ k, k < l.length → mvOk ps xs out (l.getD k Mv.zero) = true) {t p : Nat} (hp : p < P) (hn : thr ps out pe l t p l.length < 0) : planB ps xs out pe l P = false := by
  by_cases ht : t ≤ 60
  · exact plan_thr ht hp hn
  · have := thr_late (pe := pe) h (t := t) (p := p) (by omega)
    exact plan_thr (t := 60) (by omega) hp (by omega)
theorem cntX_bd (h : ∀ k, k < l.length → mvOk ps xs out (l.getD k Mv.zero) = true) (hpe : PeOk pe) (hl : l.length ≤ 3000) : ∀ p : Nat, -(3000000 * (p : Int)) ≤ cntX ps xs out pe l T p ∧ cntX ps xs out pe l T p ≤ 3001000 * (p : Int) := by
  intro p
  induction p with
  | zero => exact ⟨Int.le_refl 0, Int.le_refl 0⟩
  | succ p ih =>
    have h1 := thr_bd h hpe (t := (T : Int)) (p := p) (n := l.length) (Nat.le_refl _)
    have h2 : cntX ps xs out pe l T (p + 1) = cntX ps xs out pe l T p + if hasI xs p = true then thr ps out pe l T p l.length else 0 := rfl
    rw [h2]
    split <;> omega
theorem cntT_bd (h : ∀ k, k < l.length → mvOk ps xs out (l.getD k Mv.zero) = true) (hpe : PeOk pe) (hl : l.length ≤ 3000) (hP : P ≤ 10) {t p : Nat} (hp : p ≤ P) : -30000000 ≤ cntT ps xs out pe l P T t p ∧ cntT ps xs out pe l P T t p ≤ 30010000 := by
  have h1 := cntX_bd (T := T) h hpe hl P
  have h2 := cntX_bd (T := T) h hpe hl p
  unfold cntT
  split
  · omega
  · split <;> omega
end


theorem slices_Clone (pe : List Int) (BA : Option Addr) (bc : Nat) (w : World) (hpe : InS w noF 1 BA pe.length (icl pe)) (hpl8 : pe.length ≤ 1000) :
    Calls Try.prog 82 [.slice BA pe.length bc].toArray w (Ret (fun u w' => ∃ A c, u = .slice A pe.length c ∧ St w noF [ownM 3 1 A pe.length c (icl pe)] w')) := by
 refine enter Try.func82 rfl Try.ntmps82 rfl (fun a H => ?_)
 have S := St.start w
 refine sS H fun K1 k1=>sr 1 rfl <| sE ?_;clear H a;intro a H
 refine k1 _ ?_;clear k1 K1
 refine wp_seq_k fun K2 k2 => ?_
 refine sS H fun K3 k3=>sr 1 rfl <| sd (does_isNil sl_23 rfl) <| sE ?_;clear H a;intro a H
 refine k3 _ ?_;clear k3 K3
 refine cond_ H rfl (fun hc1 => ?_) (fun hc1 => ?_)
 ·skip
  try simp only [o1,o2,o3,o4,o5,o6,o7,o8,o9,oa] at hc1
  refine sS H fun K4 k4=>sr 1 rfl <| sE ?_;clear H a;intro a H
  refine k4 _ ?_;clear k4 K4
  refine wp_ret ?_
  refine ret1 (fn := Try.f82) rfl H rfl ?_
  have h0 : pe.length = 0 := by
    rcases Nat.eq_zero_or_pos pe.length with h | h
    · exact h
    · exfalso
      obtain ⟨b, o, rfl, _⟩ := hpe h
      cases hc1
  have h9 : pe = [] := List.eq_nil_of_length_eq_zero h0
  subst h9
  exact ⟨none, 0, rfl, (S.sel [] rfl rfl).newNil _ _ _⟩
 try simp only [o1,o2,o3,o4,o5,o6,o7,o8,o9,oa] at hc1
 refine wp_skip ?_
 refine k2 _ _ ?_
 refine seq_list fun K5 k5 => ?_
 refine list_build0 H rfl S sl_23 sz_3 (icl pe) ?_;clear H a S;intro A1 _ a S H
 refine ls 1 H <| sr 1 rfl <| sE ?_;clear H a;intro a H
 refine list_append H rfl S sl_23 sz_3 ze_3 by_3 rfl rfl (i := 0) rfl rfl rfl ((hpe.now S)) (fun _ _ _ _ => rfl) (by omega) (by omega) ?_;clear H a S;intro A2 c2 _ a S H
 rw [Nat.zero_add] at H
 replace S := S.recell (i := 0) (n := pe.length) (cell' := icl pe) (by simp only [Nat.zero_add]; rfl) (fun k j hk hj => by unfold capp; rw [if_neg (by omega)]; rfl)
 obtain ⟨pA, rfl⟩ : ∃ y, y = A2 := ⟨_, rfl⟩
 obtain ⟨pC, rfl⟩ : ∃ y, y = c2 := ⟨_, rfl⟩
 refine ls 1 H <| sr 1 rfl <| sE ?_;clear H a;intro a H
 refine k5 _ _ ?_;clear k5 K5
 refine wp_ret ?_
 refine ret1 (fn := Try.f82) rfl H rfl ?_
 exact ⟨_, _, rfl, (S.sel [0] rfl rfl)⟩

theorem ways_Outside (pl : Int) (ps : List Psg) (PA : Option Addr) (pc : Nat) (xs : List Int) (XA : Option Addr) (xc : Nat) (out : Int) (pe : List Int) (BA : Option Addr) (bc : Nat) (T0 : Int) (l : List Mv) (MA : Option Addr) (mc : Nat) (w : World) (hps : InS w noF 7 PA ps.length (pcell ps)) (hpn : ps.length ≤ 9223372036854775807) (hxs : InS w noF 1 XA xs.length (icl xs)) (hxn : xs.length ≤ 9223372036854775807) (hpe : InS w noF 1 BA pe.length (icl pe)) (hpen : pe.length ≤ 9223372036854775807) (hml : InS w noF 4 MA l.length (mvcell l)) (hmn : l.length ≤ 9223372036854775807) :
    Calls Try.prog 44 [.agg [.int .i64 pl, .slice PA ps.length pc, .slice XA xs.length xc].toArray, .int .i64 out, .slice BA pe.length bc, .int .i64 T0, .slice MA l.length mc].toArray w (Ret (fun u w' => u = .tuple #[.int .i64 (outV pl ps xs out pe T0 l).1, .int .i64 (outV pl ps xs out pe T0 l).2] ∧ St w noF [] w')) := by
 refine enterM Try.func44 rfl Try.ntmps44 rfl (fun a H => ?_)
 have S := St.start w
 refine seq_list fun K1 k1 => ?_
 refine list_box H rfl S rfl rfl ?_;clear H a S;intro b5 _ a hb5 hbw5 S H
 refine ls 2 H <| sr 2 rfl <| sE ?_;clear H a;intro a H
 refine k1 _ _ ?_;clear k1 K1
 refine wp_seq_k fun K2 k2 => ?_
 refine seq_list fun K3 k3 => ?_
 refine ls 4 H <| sd ((does_loadBox agg_25 sz_25 rfl S (i := 0) rfl rfl)) <| sr 3 rfl <| sE ?_;clear H a;intro a H
 refine list_call H rfl rfl Try.func65 rfl rfl (ways_leaving pl ps PA pc xs XA xc out pe BA bc T0 _ (hps.now S) hpn (hxs.now S) hxn (hpe.now S) hpen) ?_;clear H a
 rintro _ _ a ⟨rfl, S2⟩ H
 replace S := S.call S2;clear S2
 refine ls 1 H <| sr 1 rfl <| sE ?_;clear H a;intro a H
 refine k3 _ _ ?_;clear k3 K3
 replace H := H.keep [1, 2, 3, 4, 5, 12] rfl
 refine sS H fun K4 k4=>sr 2 rfl <| sE ?_;clear H a;intro a H
 refine k4 _ ?_;clear k4 K4
 refine condN H rfl (fun hc1 => ?_) (fun hc1 => ?_)
 ·skip
  refine sS H fun K5 k5=>sr 3 rfl <| sE ?_;clear H a;intro a H
  refine k5 _ ?_;clear k5 K5
  refine wp_ret ?_
  refine retM2 (fn := Try.f44) rfl H rfl rfl ?_
  rw [outV_err hc1]
  exact ⟨rfl, (S.sel [] rfl rfl)⟩
 obtain ⟨hst, hou, hcr, hti⟩ := leaveE_ok hc1
 have hV0 := st_valid hst
 obtain ⟨P, rfl⟩ : ∃ P : Nat, pl = P := ⟨pl.toNat, by have := hV0.size; omega⟩
 have hV := hV0
 obtain ⟨hpp, hpl'⟩ := crowd_ok hcr
 have hpl : pe.length = P := by omega
 obtain ⟨T, rfl⟩ : ∃ T : Nat, T0 = T := ⟨T0.toNat, by omega⟩
 have hT : T ≤ 60 := by omega
 have hP10 := hV.size
 have hpk : PeOk pe := hpp
 refine wp_skip ?_
 refine k2 _ _ ?_
 refine wp_seq_k fun K6 k6 => ?_
 refine sS H fun K7 k7=>sr 1 rfl <| sL sl_49 rfl <| sr 1 rfl <| sE ?_;clear H a;intro a H
 refine k7 _ ?_;clear k7 K7
 refine condL H rfl (fun hc2 => ?_) (fun hc2 => ?_)
 ·skip
  replace H := H.keep [] rfl
  refine sS H fun K8 k8=>sr 2 rfl <| sE ?_;clear H a;intro a H
  refine k8 _ ?_;clear k8 K8
  refine wp_ret ?_
  refine retM2 (fn := Try.f44) rfl H rfl rfl ?_
  rw [outV_many hc1 (by omega)]
  exact ⟨rfl, (S.sel [] rfl rfl)⟩
 refine wp_skip ?_
 refine k6 _ _ ?_
 refine seq_list fun K9 k9 => ?_
 refine list_makeMapK enc2 (wayP (hds out xs ps) 0) wayP_none H rfl S ?_;clear H a S;intro bm _ a hbm S H
 refine list_alloc H rfl S ze_130 ?_;clear H a S;intro b13 _ a hb13 hbw13 S H
 refine list_store H S (i := 0) rfl rfl rfl rfl sz_130 rfl rfl ?_
 clear H a S;intro _ a S H
 refine k9 _ _ ?_;clear k9 K9
 refine wp_seq_k fun K10 k10 => ?_
 refine seq_list fun K11 k11 => ?_
 refine ls 2 H <| sd ((does_loadBox agg_25 sz_25 rfl S (i := 2) rfl rfl)) <| sr 1 rfl <| sE ?_;clear H a;intro a H
 refine list_call H rfl rfl Try.func76 rfl rfl (ways_headings (P : Int) ps PA pc xs XA xc out _) ?_;clear H a
 rintro _ _ a ⟨b2, b3, rfl, S2⟩ H
 replace S := S.call S2;clear S2
 refine k11 _ _ ?_;clear k11 K11
 refine wp_block ?_
 replace H := H.keep [2, 3, 4, 5, 13, 41] rfl
 have SB := St.pack (Ms := [_, _]) (R := [_, _, _]) (S.sel [2, 3, 0, 1, 4] rfl rfl)
 refine range_st (cnt := (hds out xs ps).length) H SB rfl Try.func92 rfl rfl rfl rfl rfl ze_120 (fun i => Hd.cells ((hds out xs ps).getD i Hd.zero)) (fun _ => rfl) sz_120 (fun _ => rfl) (fun i M => M = bun [boxM b13 130 [.map (some bm)], mapK enc2 bm (wayP (hds out xs ps) i)]) (rfl) (fun _ _ => True) ?_ ?_ ?_
 ·intro ly Jm M w9 hJ9 S hr9
  have S1 := (S.sel [0, 1, 2] rfl rfl)
  refine ret_imp (heads_iter (P : Int) ps PA pc xs XA xc out b2 b3 ly Jm M w9 _ hJ9 S1.startR (hps.nowR S1) hpn (hxs.nowR S1) hxn (fun k hk h3 => by have := psgOk_iff.1 (hV.pas k hk); omega) hou.1 (fun i m' x w1 hi hJ SX => hr9 i m' x _ _ w1 hi hJ trivial SX)) ?_
  rintro _ _ ⟨m', hJ', S2⟩
  exact ⟨m', hJ', ((S.sel [0, 1, 2, 3] rfl rfl).callR (M := [_, _, _]) S2).sel [0, 1, 2, 3] rfl rfl⟩
 ·intro ly i m9 x9 w00 F00 w9 a b14 hi9 hJ9 hIn9 S H
  subst hJ9
  replace S := St.unpack (S.sel [1, 0, 2] rfl rfl)
  refine Rd.wp_block ?_
  refine Rd.one_list ?_
  refine ls 7 H <| sl S 0 one_130 rfl rfl rfl <| sf fo_120_0 rfl <| sl S 2 one_3 rfl rfl rfl <| sf fo_120_1 rfl <| sl S 2 one_3 rfl rfl rfl <| sd (does_build bt_131 rfl rfl) <| sd ((does_loadBox agg_120 sz_120 rfl S (i := 2) rfl rfl)) <| sE ?_;clear H a;intro a H
  refine list_mapUpdateK (k := ((((hds out xs ps)).getD i Hd.zero).pas, (((hds out xs ps)).getD i Hd.zero).fr)) (wayP (hds out xs ps) (i + 1)) H S (i := 1) rfl mt_130 (keyOk2 Try.underlying131 Try.underlying3 one_3 sz_3) rfl rfl rfl (wayP_step rfl) ?_;clear H a S;intro _ a S H
  exact ⟨_, rfl, St.pack (Ms := [_, _]) (R := [_]) (S.sel [0, 1, 3] rfl rfl)⟩
 intro D m9 w9 a hJ9 S H
 subst hJ9
 replace S := St.unpack (S.sel [1, 0, 2, 3, 4] rfl rfl)
 refine k10 _ _ ?_
 refine seq_list fun K13 k13 => ?_
 refine list_alloc (cs := List.replicate 810 (.int .i64 0)) H rfl S ze810 ?_;clear H a S;intro b15 _ a hb15 hwb15 S H
 replace S := grid_of (n := 81) (m := 10) S (i := 0) rfl (by decide)
 replace S := S.recell (i := 0) rfl (cell' := tabC fun t p => wnS l t p 0) (fun _ _ _ _ => rfl)
 refine list_alloc (cs := List.replicate 810 (.int .i64 0)) H rfl S ze810 ?_;clear H a S;intro b16 _ a hb16 hwb16 S H
 replace S := grid_of (n := 81) (m := 10) S (i := 0) rfl (by decide)
 replace S := S.recell (i := 0) rfl (cell' := tabC fun t p => cmS ps out l t p 0) (fun _ _ _ _ => rfl)
 refine k13 _ _ ?_;clear k13 K13
 refine seq_list fun K14 k14 => ?_
 refine list_makeMapK enc3 (totP l 0) totP_none H rfl S ?_;clear H a S;intro b50 _ a hb50 S H
 refine ls 1 H <| sr 1 rfl <| sE ?_;clear H a;intro a H
 refine k14 _ _ ?_;clear k14 K14
 refine wp_seq_k fun K15 k15 => ?_
 refine sS H fun K16 k16=>sr 1 rfl <| sL sl_49 rfl <| sr 1 rfl <| sE ?_;clear H a;intro a H
 refine k16 _ ?_;clear k16 K16
 refine wp_block ?_
 refine loop_st (X := Nat) (R0 := _) [2, 3, 5, 13, 15, 16, 17, 51, 52] H rfl (fun i => [(53, .int .i64 (i : Int))]) (fun i => [ownM 133 10 (some ⟨b15, 0, none⟩) 81 81 (tabC fun t p => wnS l t p i), ownM 133 10 (some ⟨b16, 0, none⟩) 81 81 (tabC fun t p => cmS ps out l t p i), mapK enc3 b50 (totP l i)]) (fun g i => i ≤ l.length ∧ g + i = l.length ∧ (∀ q, q < i → mvOk ps xs out (l.getD q Mv.zero) = true) ∧ ∀ q, q < i → totK l (l.getD q Mv.zero) i ≤ (mvP ps (l.getD q Mv.zero)).wide) (l.length) 0 ?_ (S.sel [2, 1, 0, 3, 4, 5, 6, 7, 8] rfl rfl) (H.keep [53, 2, 3, 5, 13, 15, 16, 17, 51, 52] rfl) ?_
 · exact ⟨by omega, by omega, fun q hq => absurd hq (Nat.not_lt_zero q), fun q hq => absurd hq (Nat.not_lt_zero q)⟩
 clear H S a
 intro g1 x1 a w1 hp S H K17 k17
 obtain ⟨i, rfl⟩ : ∃ y, y = x1 := ⟨_, rfl⟩
 obtain ⟨hil, hgi, hall, htot⟩ := hp
 refine sS H fun K18 k18=>sr 1 rfl <| sE ?_;clear H a;intro a H
 refine k18 _ ?_;clear k18 K18
 refine wp_seq_k fun K19 k19 => ?_
 refine condL H rfl (fun hc3 => ?_) (fun hc3 => ?_)
 ·skip
  refine wp_skip ?_
  refine k19 _ _ ?_
  refine wp_seq_k fun K20 k20 => ?_
  refine wp_block ?_
  refine seq_list fun K21 k21 => ?_
  refine ls 2 H <| si sl_49 sz_76 rfl rfl (hml.adr (by omega)) (by omega) <| sd ((does_loadIn agg_76 sz_76 rfl S hml (by omega) (by omega))) <| sE ?_;clear H a;intro a H
  refine list_alloc H rfl S ze_76 ?_;clear H a S;intro b19 _ a hb19 hbw19 S H
  refine list_store H S (i := 0) rfl rfl rfl rfl sz_76 rfl rfl ?_
  clear H a S;intro _ a S H
  refine k21 _ _ ?_;clear k21 K21
  cases hho : hgetO (hds out xs ps) ((hds out xs ps)).length ((l.getD i Mv.zero).pas, (l.getD i Mv.zero).fr)
  ·skip
   skip
   replace H := H.keep [2, 3, 5, 13, 15, 16, 17, 19, 51, 52, 53] rfl
   refine seq_list fun K22 k22 => ?_
   refine ls 10 H <| sl S 4 one_130 rfl rfl rfl <| sf fo_76_0 rfl <| sl S 0 one_3 rfl rfl rfl <| sf fo_76_1 rfl <| sl S 0 one_3 rfl rfl rfl <| sd (does_build bt_131 rfl rfl) <| sd (does_lookupOkK S (i := 5) (k := ((l.getD i Mv.zero).pas, (l.getD i Mv.zero).fr)) (v := .agg #[.int .i64 0, .int .i64 0, .int .i64 0, .int .i64 0, .int .i64 0]) (s := false) rfl mt_130 (keyOk2 Try.underlying131 Try.underlying3 one_3 sz_3) zv_120 rfl rfl (fun h hh => by rw [hh, hho]; exact ⟨rfl, rfl⟩)) <| sr 3 rfl <| sE ?_;clear H a;intro a H
   refine list_alloc H rfl S ze_120 ?_;clear H a S;intro b20 _ a hb20 hbw20 S H
   refine list_store H S (i := 0) rfl rfl rfl rfl sz_120 rfl rfl ?_
   clear H a S;intro _ a S H
   refine ls 1 H <| sr 1 rfl <| sE ?_;clear H a;intro a H
   refine k22 _ _ ?_;clear k22 K22
   refine wp_seq_k fun K23 k23 => ?_
   replace H := H.keep [2, 3, 5, 13, 15, 16, 17, 19, 20, 21, 51, 52, 53] rfl
   refine sS H fun K24 k24=>sr 3 rfl <| sg 4 2 69 73 false rfl rfl (fun hg3 => by
       have hq3 := hg3;try simp only [o1,o2,o3,o4,o5,o6,o7,o8,o9,oa] at hq3
       exact sy hg3 <| sf fo_76_2 rfl <| sy hg3 <| sl S 1 one_3 rfl rfl rfl <| sy hg3 <| sc rfl Try.func54 rfl rfl (ways_within _ _ _ _) <| sy hg3 <| sr 1 rfl <| sz 4 rfl rfl rfl) <| so rfl rfl rfl <| sr 1 rfl <| sg 4 8 75 79 false rfl rfl (fun hg9 => by
       have hq9 := hg9;try simp only [o1,o2,o3,o4,o5,o6,o7,o8,o9,oa] at hq9
       exact sy hg9 <| sf fo_76_3 rfl <| sy hg9 <| sl S 1 one_3 rfl rfl rfl <| sy hg9 <| sc rfl Try.func54 rfl rfl (ways_within _ _ _ _) <| sy hg9 <| sr 1 rfl <| sz 4 rfl rfl rfl) <| so rfl rfl rfl <| sE ?_;clear H a;intro a H
   refine k24 _ ?_;clear k24 K24
   refine cond_ H rfl (fun hc4 => ?_) (fun hc4 => ?_)
   ·skip
    try simp only [o1,o2,o3,o4,o5,o6,o7,o8,o9,oa] at hc4
    replace H := H.keep [] rfl
    refine sS H fun K25 k25=>sr 2 rfl <| sE ?_;clear H a;intro a H
    refine k25 _ ?_;clear k25 K25
    refine wp_ret ?_
    refine retC2 (fn := Try.f44) rfl H S (i := 7) rfl rfl rfl (fun _ S => ?_)
    rw [outV_bad hc1 (by omega) (plan_bad (k := i) (by omega) (way_none hV hou.1 hho))]
    exact ⟨rfl, (S.sel [] rfl rfl)⟩
   try simp only [o1,o2,o3,o4,o5,o6,o7,o8,o9,oa] at hc4
   simp at hc4
  rename_i x
  have F := way_some (m := (l.getD i Mv.zero)) hV hou.1 hho
  replace H := H.keep [2, 3, 5, 13, 15, 16, 17, 19, 51, 52, 53] rfl
  refine seq_list fun K26 k26 => ?_
  refine ls 10 H <| sl S 4 one_130 rfl rfl rfl <| sf fo_76_0 rfl <| sl S 0 one_3 rfl rfl rfl <| sf fo_76_1 rfl <| sl S 0 one_3 rfl rfl rfl <| sd (does_build bt_131 rfl rfl) <| sd (does_lookupOkK S (i := 5) (k := ((l.getD i Mv.zero).pas, (l.getD i Mv.zero).fr)) (v := .agg (Hd.cells x).toArray) (s := true) rfl mt_130 (keyOk2 Try.underlying131 Try.underlying3 one_3 sz_3) zv_120 rfl rfl (fun h hh => by rw [hh, hho]; exact ⟨rfl, rfl⟩)) <| sr 3 rfl <| sE ?_;clear H a;intro a H
  refine list_alloc H rfl S ze_120 ?_;clear H a S;intro b20 _ a hb20 hbw20 S H
  refine list_store H S (i := 0) rfl rfl rfl rfl sz_120 rfl rfl ?_
  clear H a S;intro _ a S H
  refine ls 1 H <| sr 1 rfl <| sE ?_;clear H a;intro a H
  refine k26 _ _ ?_;clear k26 K26
  refine wp_seq_k fun K27 k27 => ?_
  replace H := H.keep [2, 3, 5, 13, 15, 16, 17, 19, 20, 21, 51, 52, 53] rfl
  refine sS H fun K28 k28=>sr 3 rfl <| sg 4 2 69 73 false rfl rfl (fun hg3 => by
      have hq3 := hg3;try simp only [o1,o2,o3,o4,o5,o6,o7,o8,o9,oa] at hq3
      exact sy hg3 <| sf fo_76_2 rfl <| sy hg3 <| sl S 1 one_3 rfl rfl rfl <| sy hg3 <| sc rfl Try.func54 rfl rfl (ways_within _ _ _ _) <| sy hg3 <| sr 1 rfl <| sz 4 rfl rfl rfl) <| so rfl rfl rfl <| sr 1 rfl <| sg 4 8 75 79 false rfl rfl (fun hg9 => by
      have hq9 := hg9;try simp only [o1,o2,o3,o4,o5,o6,o7,o8,o9,oa] at hq9
      exact sy hg9 <| sf fo_76_3 rfl <| sy hg9 <| sl S 1 one_3 rfl rfl rfl <| sy hg9 <| sc rfl Try.func54 rfl rfl (ways_within _ _ _ _) <| sy hg9 <| sr 1 rfl <| sz 4 rfl rfl rfl) <| so rfl rfl rfl <| sE ?_;clear H a;intro a H
  refine k28 _ ?_;clear k28 K28
  refine cond_ H rfl (fun hc5 => ?_) (fun hc5 => ?_)
  ·skip
   try simp only [o1,o2,o3,o4,o5,o6,o7,o8,o9,oa] at hc5
   replace H := H.keep [] rfl
   refine sS H fun K29 k29=>sr 2 rfl <| sE ?_;clear H a;intro a H
   refine k29 _ ?_;clear k29 K29
   refine wp_ret ?_
   refine retC2 (fn := Try.f44) rfl H S (i := 7) rfl rfl rfl (fun _ S => ?_)
   rw [outV_bad hc1 (by omega) (plan_bad (k := i) (by omega) (mvOk_f1 fun h => by obtain ⟨h1, h2, h3⟩ := h; rcases hc5 with (h9 | h9) | h9; (cases h9); omega; omega))]
   exact ⟨rfl, (S.sel [] rfl rfl)⟩
  try simp only [o1,o2,o3,o4,o5,o6,o7,o8,o9,oa] at hc5
  have hok := way_ok F (by omega) (by omega)
  have hgood9 : 1 ≤ (l.getD i Mv.zero).many ∧ (l.getD i Mv.zero).many ≤ 1000 := by omega
  have hxr := F.rng
  unfold HdOk at hxr
  have hxf := F.fr
  refine wp_skip ?_
  refine k27 _ _ ?_
  replace H := H.keep [2, 3, 5, 13, 15, 16, 17, 19, 20, 51, 52, 53] rfl
  refine seq_list fun K30 k30 => ?_
  refine ls 7 H <| sf fo_76_0 rfl <| sl S 1 one_3 rfl rfl rfl <| sf fo_76_1 rfl <| sl S 1 one_3 rfl rfl rfl <| sf fo_76_2 rfl <| sl S 1 one_3 rfl rfl rfl <| sd (does_build bt_136 rfl rfl) <| sE ?_;clear H a;intro a H
  refine list_alloc H rfl S ze_136 ?_;clear H a S;intro b22 _ a hb22 hbw22 S H
  refine list_store H S (i := 0) rfl rfl rfl rfl sz_136 rfl rfl ?_
  clear H a S;intro _ a S H
  refine k30 _ _ ?_;clear k30 K30
  refine wp_seq_k fun K31 k31 => ?_
  have htb := totb_bd hall (n := i) (by omega) (m := (l.getD i Mv.zero))
  replace H := H.keep [2, 3, 5, 13, 15, 16, 17, 19, 20, 22, 51, 52, 53] rfl
  replace S := S.drew
  refine seq_wt 8 (.p 0 (.q 1 (.q 2 (.p 3 (.q 4 (.p 5 (.e 6 (.p 7 (.e 8 .nil))))))))) (by kernel_rfl) (by kernel_rfl) (S.sel [0, 1, 2, 3, 4, 5, 6, 7, 8, 9, 10, 11] rfl rfl) fun K32 k32 => ?_
  refine wt_pure H rfl rfl (fun _ => does_move rfl) ?_;clear H a;intro a H
  refine wt_does H rfl rfl (fun _ S => (does_loadBox agg_136 sz_136 rfl S (i := 0) rfl rfl)) ?_;clear H a;intro a H
  refine wt_does H rfl rfl (fun _ S => does_lookupK S (i := 5) (k := ((l.getD i Mv.zero).pas, (l.getD i Mv.zero).fr, (l.getD i Mv.zero).at_)) (v := .int .i64 (totK l (l.getD i Mv.zero) i)) rfl mt_134 (keyOk3 Try.underlying136 Try.underlying3 one_3 sz_3) zv_3 rfl rfl (fun h hh => hh _)) ?_;clear H a;intro a H
  refine wt_pure H rfl rfl (fun _ => (does_field fo_76_3 rfl)) ?_;clear H a;intro a H
  refine wt_does H rfl rfl (fun _ S => does_load one_3 rfl (boxM.rd S (i := 2) rfl rfl)) ?_;clear H a;intro a H
  refine wt_pure H rfl rfl (fun _ => does_add rfl rfl (by unfold i64ok; omega)) ?_;clear H a;intro a H
  refine wt_eff rfl ?_
  refine list_mapEntryK (k := ((l.getD i Mv.zero).pas, (l.getD i Mv.zero).fr, (l.getD i Mv.zero).at_)) H rfl S (i := 5) rfl mt_134 (keyOk3 Try.underlying136 Try.underlying3 one_3 sz_3) zv_3 rfl rfl totP_zero ?_;clear H a S;intro _ a st9 v9 hst S H
  refine wpList_nil (And.intro (Or.inr (S.sel [0, 1, 2, 3, 4, 5, 6, 7, 8, 9, 10, 11] rfl rfl)) ?_)
  refine wt_pure H rfl rfl (fun _ => does_extract rfl rfl) ?_;clear H a;intro a H
  refine wt_eff rfl ?_
  refine list_entryStoreK (k := ((l.getD i Mv.zero).pas, (l.getD i Mv.zero).fr, (l.getD i Mv.zero).at_)) (totP l (i + 1)) H S (i := 5) rfl hst rfl rfl rfl (totP_step (by omega) rfl) ?_;clear H a S hst;intro _ a S H
  refine wpList_nil (And.intro (Or.inl rfl) ?_)
  refine wt_nil ?_
  refine k32 _ _ ?_
  clear k32 K32
  replace H := H.keep [2, 3, 5, 13, 15, 16, 17, 19, 20, 22, 51, 52, 53] rfl
  replace S := S.drew
  refine sD H fun K33 k33=>sr 1 rfl <| sd ((does_loadBox agg_136 sz_136 rfl S (i := 0) rfl rfl)) <| sd (does_lookupK S (i := 5) (k := ((l.getD i Mv.zero).pas, (l.getD i Mv.zero).fr, (l.getD i Mv.zero).at_)) (v := .int .i64 (totK l (l.getD i Mv.zero) (i + 1))) rfl mt_134 (keyOk3 Try.underlying136 Try.underlying3 one_3 sz_3) zv_3 rfl rfl (fun h hh => hh _)) <| sf fo_120_4 rfl <| sl S 1 one_3 rfl rfl rfl <| sr 1 rfl <| sE ?_;clear H a;intro a H
  refine k33 _ ?_;clear k33 K33
  refine condL H rfl (fun hc6 => ?_) (fun hc6 => ?_)
  ·skip
   refine sS H fun K34 k34=>sr 2 rfl <| sE ?_;clear H a;intro a H
   refine k34 _ ?_;clear k34 K34
   refine wp_ret ?_
   refine retC2 (fn := Try.f44) rfl H S (i := 8) rfl rfl rfl (fun _ S => ?_)
   rw [outV_bad hc1 (by omega) (over_bad (i := i) (by omega) (by rw [← F.wide]; omega))]
   exact ⟨rfl, (S.sel [] rfl rfl)⟩
  have htw : totK l (l.getD i Mv.zero) (i + 1) ≤ (mvP ps (l.getD i Mv.zero)).wide := by rw [← F.wide]; omega
  refine wp_skip ?_
  refine k31 _ _ ?_
  have hwb := wnb_bd hall (t := (l.getD i Mv.zero).at_.toNat) (p := x.fr.toNat) (n := i) (by omega)
  replace H := H.keep [2, 3, 5, 13, 15, 16, 17, 19, 20, 51, 52, 53] rfl
  refine seq_tail 12 (by kernel_rfl) (by kernel_rfl) fun K35 k35 => ?_
  replace S := S.drew
  refine sF H <| sf fo_76_2 rfl <| sl S 2 one_3 rfl rfl rfl <| sf fo_120_1 rfl <| sl S 1 one_3 rfl rfl rfl <| sd (does_indexArr Try.underlying133 sz_132 rfl rfl (by omega) (by omega)) <| sd ((does_indexArr Try.underlying132 sz_3 rfl rfl (by omega) (by omega)).to (v' := .pointer (some (pt (some ⟨b15, 0, none⟩) 10 (l.getD i Mv.zero).at_.toNat x.fr.toNat))) (by simp [pt, adr])) <| sd ((does_load one_3 rfl (ownM.rd S (i := 3) rfl (k := (l.getD i Mv.zero).at_.toNat) (j := x.fr.toNat) (by omega) (by omega))).to (v' := .int .i64 (wnS l (l.getD i Mv.zero).at_.toNat x.fr.toNat i)) rfl) <| sf fo_76_3 rfl <| sl S 2 one_3 rfl rfl rfl <| sd (does_add rfl rfl (by show i64ok (wnS l (l.getD i Mv.zero).at_.toNat x.fr.toNat i + (l.getD i Mv.zero).many); unfold i64ok; omega)) <| sd (does_indexArr Try.underlying133 sz_132 rfl rfl (by omega) (by omega)) <| sd ((does_indexArr Try.underlying132 sz_3 rfl rfl (by omega) (by omega)).to (v' := .pointer (some (pt (some ⟨b15, 0, none⟩) 10 (l.getD i Mv.zero).at_.toNat x.fr.toNat))) (by simp [pt, adr])) <| sE ?_;clear H a;intro a H
  refine list_store_own (kk := (l.getD i Mv.zero).at_.toNat) (j := x.fr.toNat) H S (i := 3) rfl rfl rfl (by omega) (by omega) sz_3 rfl ?_
  clear H a S;intro _ a S H
  replace S := S.recell (i := 3) rfl (cell' := tabC fun t p => wnS l t p (i + 1)) (fun k9 j9 _ _ => wn_put (n := i) (a := (l.getD i Mv.zero).at_.toNat) (f := x.fr.toNat) (by omega) (by omega) rfl k9 j9)
  refine k35 _ _ ?_;clear k35 K35
  have hcb := cmb_bd hall (t := ((l.getD i Mv.zero).at_ + x.ticks).toNat) (p := x.to.toNat) (n := i) (by omega)
  replace H := H.keep [2, 3, 5, 13, 15, 16, 17, 19, 20, 51, 52, 53] rfl
  refine one_tail 15 (by kernel_rfl) (by kernel_rfl) ?_
  replace S := S.drew
  refine sF H <| sf fo_76_2 rfl <| sl S 2 one_3 rfl rfl rfl <| sf fo_120_3 rfl <| sl S 1 one_3 rfl rfl rfl <| sd (does_add rfl rfl (by unfold i64ok; omega)) <| sf fo_120_2 rfl <| sl S 1 one_3 rfl rfl rfl <| sd (does_indexArr Try.underlying133 sz_132 rfl rfl (by omega) (by omega)) <| sd ((does_indexArr Try.underlying132 sz_3 rfl rfl (by omega) (by omega)).to (v' := .pointer (some (pt (some ⟨b16, 0, none⟩) 10 ((l.getD i Mv.zero).at_ + x.ticks).toNat x.to.toNat))) (by simp [pt, adr])) <| sd ((does_load one_3 rfl (ownM.rd S (i := 4) rfl (k := ((l.getD i Mv.zero).at_ + x.ticks).toNat) (j := x.to.toNat) (by omega) (by omega))).to (v' := .int .i64 (cmS ps out l ((l.getD i Mv.zero).at_ + x.ticks).toNat x.to.toNat i)) rfl) <| sf fo_76_3 rfl <| sl S 2 one_3 rfl rfl rfl <| sd (does_add rfl rfl (by unfold i64ok; omega)) <| sd (does_indexArr Try.underlying133 sz_132 rfl rfl (by omega) (by omega)) <| sd ((does_indexArr Try.underlying132 sz_3 rfl rfl (by omega) (by omega)).to (v' := .pointer (some (pt (some ⟨b16, 0, none⟩) 10 ((l.getD i Mv.zero).at_ + x.ticks).toNat x.to.toNat))) (by simp [pt, adr])) <| sE ?_;clear H a;intro a H
  refine list_store_own (kk := ((l.getD i Mv.zero).at_ + x.ticks).toNat) (j := x.to.toNat) H S (i := 4) rfl rfl rfl (by omega) (by omega) sz_3 rfl ?_
  clear H a S;intro _ a S H
  replace S := S.recell (i := 4) rfl (cell' := tabC fun t p => cmS ps out l t p (i + 1)) (fun k9 j9 _ _ => cm_put (n := i) (a := ((l.getD i Mv.zero).at_ + x.ticks).toNat) (f := x.to.toNat) (by rw [F.g]; omega) (by rw [F.o]; omega) rfl k9 j9)
  refine k20 _ _ ?_
  replace H := H.keep [2, 3, 5, 13, 15, 16, 17, 51, 52, 53] rfl
  refine sO H <| sd (does_add rfl rfl (by unfold i64ok; omega)) <| sr 1 rfl <| sE ?_;clear H a;intro a H
  exact k17 (g1 - 1) (i + 1) a _ (by omega) (⟨by omega, by omega, fun q hq => by
    by_cases e : q = i
    · subst e; exact hok
    · exact hall q (by omega), tot_all htot htw⟩) (S.sel [3, 4, 5, 6, 7, 8, 9, 10, 11] rfl rfl) (H.keep [53, 2, 3, 5, 13, 15, 16, 17, 51, 52] rfl)
 refine wp_exit ?_
 refine k15 _ _ ?_
 refine seq_list fun K38 k38 => ?_
 refine ls 1 H <| sr 1 rfl <| sE ?_;clear H a;intro a H
 refine list_call H rfl rfl Try.func82 rfl rfl (slices_Clone pe BA bc _ (hpe.now S) (by omega)) ?_;clear H a
 rintro _ _ a ⟨Ath, cth, rfl, S2⟩ H
 replace S := S.call S2;clear S2
 refine ls 1 H <| sr 1 rfl <| sE ?_;clear H a;intro a H
 refine k38 _ _ ?_;clear k38 K38
 refine sS H fun K39 k39=>sd ((does_assign rfl).to (v' := .int .i64 (cntT ps xs out pe l P T 0 0)) (by congr 1; unfold cntT; rw [if_neg (by omega)]; split <;> rfl)) <| sE ?_;clear H a;intro a H
 refine k39 _ ?_;clear k39 K39
 refine wp_seq_k fun K40 k40 => ?_
 refine sS H fun K41 k41=>sr 1 rfl <| sE ?_;clear H a;intro a H
 refine k41 _ ?_;clear k41 K41
 refine wp_block ?_
 obtain rfl : i = l.length := by omega
 have hall2 : ∀ k, k < l.length → mvOk ps xs out (l.getD k Mv.zero) = true := hall
 have hmany : ∀ k, k < l.length → 1 ≤ (l.getD k Mv.zero).many ∧ (l.getD k Mv.zero).many ≤ 1000 := fun k hk => (mvOk_iff.1 (hall k hk)).1.2.2
 replace S := S.recell (i := 0) rfl (cell' := lcl (fun p9 => thr ps out pe l (((0 : Nat) : Int) - 1) p9 l.length)) (fun k9 j9 hk9 hj9 => by unfold icl lcl; dsimp only; rw [thr_first hall2])
 refine loop_st (X := Nat) (R0 := _) [3, 5, 15, 16, 23] H rfl (fun t => [(24, .int .i64 (cntT ps xs out pe l P T t 0)), (132, .int .i64 (t : Int))]) (fun t => [ownM 3 1 Ath pe.length cth (lcl (fun p9 => thr ps out pe l ((t : Int) - 1) p9 l.length))]) (fun g t => t ≤ 81 ∧ g + t = 81 ∧ ∀ q, q < t → ∀ p, p < P → 0 ≤ thr ps out pe l q p l.length) (81) 0 ?_ (S.sel [0, 1, 2, 3, 4, 5, 6, 7, 8, 9] rfl rfl) (H.keep [24, 132, 3, 5, 15, 16, 23] rfl) ?_
 · exact ⟨by omega, by omega, fun q hq => absurd hq (Nat.not_lt_zero q)⟩
 clear H S a
 intro g2 x2 a w2 hp S H K42 k42
 obtain ⟨t, rfl⟩ : ∃ y, y = x2 := ⟨_, rfl⟩
 obtain ⟨ht81, hgt, hneg⟩ := hp
 refine sS H fun K43 k43=>sr 1 rfl <| sE ?_;clear H a;intro a H
 refine k43 _ ?_;clear k43 K43
 refine wp_seq_k fun K44 k44 => ?_
 refine condL H rfl (fun hc7 => ?_) (fun hc7 => ?_)
 ·skip
  refine wp_skip ?_
  refine k44 _ _ ?_
  refine wp_seq_k fun K45 k45 => ?_
  refine wp_block ?_
  refine sS H fun K46 k46=>sr 2 rfl <| sE ?_;clear H a;intro a H
  refine k46 _ ?_;clear k46 K46
  refine sS H fun K47 k47=>sf fo_25_0 rfl <| sl S 9 one_3 rfl rfl rfl <| sr 1 rfl <| sE ?_;clear H a;intro a H
  refine k47 _ ?_;clear k47 K47
  refine wp_block ?_
  replace S := S.recell (i := 0) rfl (cell' := lcl (fun p9 => if p9 < 0 then thr ps out pe l t p9 l.length else thr ps out pe l ((t : Int) - 1) p9 l.length)) (fun k9 j9 hk9 hj9 => by unfold lcl; dsimp only; rw [if_neg (by omega)])
  refine loop_st (X := Nat) (R0 := _) [3, 5, 15, 16, 23, 25, 132, 136] H rfl (fun p => [(24, .int .i64 (cntT ps xs out pe l P T t p)), (137, .int .i64 (p : Int))]) (fun p => [ownM 3 1 Ath pe.length cth (lcl (fun p9 => if p9 < p then thr ps out pe l t p9 l.length else thr ps out pe l ((t : Int) - 1) p9 l.length))]) (fun g p => p ≤ P ∧ g + p = P ∧ ∀ q, q < p → 0 ≤ thr ps out pe l t q l.length) (P) 0 ?_ (S.sel [0, 1, 2, 3, 4, 5, 6, 7, 8, 9] rfl rfl) (H.keep [24, 137, 3, 5, 15, 16, 23, 25, 132, 136] rfl) ?_
  · exact ⟨by omega, by omega, fun q hq => absurd hq (Nat.not_lt_zero q)⟩
  clear H S a
  intro g3 x3 a w3 hp S H K48 k48
  obtain ⟨p, rfl⟩ : ∃ y, y = x3 := ⟨_, rfl⟩
  obtain ⟨hpP, hgp, hneg3⟩ := hp
  refine sS H fun K49 k49=>sr 1 rfl <| sE ?_;clear H a;intro a H
  refine k49 _ ?_;clear k49 K49
  refine wp_seq_k fun K50 k50 => ?_
  refine condL H rfl (fun hc8 => ?_) (fun hc8 => ?_)
  ·skip
   refine wp_skip ?_
   refine k50 _ _ ?_
   refine wp_seq_k fun K51 k51 => ?_
   refine wp_block ?_
   refine sS H fun K52 k52=>sr 2 rfl <| sE ?_;clear H a;intro a H
   refine k52 _ ?_;clear k52 K52
   have hcb := cm_bd (ps := ps) (out := out) hmany (t := t) (p := p) (n := l.length) (Nat.le_refl _)
   have hwb := wn_bd hmany (t := t) (p := p) (n := l.length) (Nat.le_refl _)
   have htb1 := thr_bd hall2 hpk (t := (t : Int) - 1) (p := p) (n := l.length) (Nat.le_refl _)
   have hths := thr_step (ps := ps) (out := out) (pe := pe) (l := l) t p l.length
   have th_put : ∀ k j, j < 1 → cput (lcl (fun p9 => if p9 < p then thr ps out pe l t p9 l.length else thr ps out pe l ((t : Int) - 1) p9 l.length)) p 0 (.int .i64 (thr ps out pe l ((t : Int) - 1) p l.length + (cmS ps out l t p l.length - wnS l t p l.length))) k j = lcl (fun p9 => if p9 < p + 1 then thr ps out pe l t p9 l.length else thr ps out pe l ((t : Int) - 1) p9 l.length) k j := by
     intro k j hj
     have hj0 : j = 0 := by omega
     subst hj0
     rw [← hths]
     unfold cput lcl
     dsimp only
     by_cases e : k = p
     · subst e; rw [if_pos ⟨rfl, rfl⟩, if_pos (by omega)]
     · rw [if_neg (fun h => e h.1)]
       by_cases h : k < p
       · rw [if_pos h, if_pos (by omega)]
       · rw [if_neg h, if_neg (by omega)]
   replace H := H.keep [3, 5, 15, 16, 23, 24, 25, 26, 132, 136, 137] rfl
   refine seq_tail 17 (by kernel_rfl) (by kernel_rfl) fun K53 k53 => ?_
   replace S := S.drew
   refine sF H <| sr 2 rfl <| si sl_23 sz_3 rfl rfl (ownM.adr S (i := 0) rfl (by omega)) (by omega) <| sd ((does_load one_3 rfl (ownM.rd S (i := 0) rfl (k := p) (j := 0) (by omega) (by omega))).to (v' := .int .i64 (thr ps out pe l ((t : Int) - 1) p l.length)) (by unfold lcl; dsimp only; rw [if_neg (by omega)])) <| sr 2 rfl <| sd (does_indexArr Try.underlying133 sz_132 rfl rfl (by omega) (by omega)) <| sd ((does_indexArr Try.underlying132 sz_3 rfl rfl (by omega) (by omega)).to (v' := .pointer (some (pt (some ⟨b16, 0, none⟩) 10 t p))) (by simp [pt, adr])) <| sd ((does_load one_3 rfl (ownM.rd S (i := 2) rfl (k := t) (j := p) (by omega) (by omega))).to (v' := .int .i64 (cmS ps out l t p l.length)) rfl) <| sr 2 rfl <| sd (does_indexArr Try.underlying133 sz_132 rfl rfl (by omega) (by omega)) <| sd ((does_indexArr Try.underlying132 sz_3 rfl rfl (by omega) (by omega)).to (v' := .pointer (some (pt (some ⟨b15, 0, none⟩) 10 t p))) (by simp [pt, adr])) <| sd ((does_load one_3 rfl (ownM.rd S (i := 1) rfl (k := t) (j := p) (by omega) (by omega))).to (v' := .int .i64 (wnS l t p l.length)) rfl) <| sd (does_sub rfl rfl (by unfold i64ok; omega)) <| sd (does_add rfl rfl (by unfold i64ok; omega)) <| si sl_23 sz_3 rfl rfl (ownM.adr S (i := 0) rfl (by omega)) (by omega) <| sE ?_;clear H a;intro a H
   refine list_store_own (kk := p) (j := 0) H S (i := 0) rfl rfl rfl (by omega) (by omega) sz_3 rfl ?_
   clear H a S;intro _ a S H
   replace S := S.recell (i := 0) rfl (cell' := lcl (fun p9 => if p9 < p + 1 then thr ps out pe l t p9 l.length else thr ps out pe l ((t : Int) - 1) p9 l.length)) (fun k9 j9 _ hj9 => th_put k9 j9 hj9)
   refine k53 _ _ ?_;clear k53 K53
   refine wp_seq_k fun K54 k54 => ?_
   replace H := H.keep [3, 5, 15, 16, 23, 24, 25, 26, 132, 136, 137] rfl
   refine sS H fun K55 k55=>sr 2 rfl <| si sl_23 sz_3 rfl rfl (ownM.adr S (i := 0) rfl (by omega)) (by omega) <| sd ((does_load one_3 rfl (ownM.rd S (i := 0) rfl (k := p) (j := 0) (by omega) (by omega))).to (v' := .int .i64 (thr ps out pe l t p l.length)) (by unfold lcl; dsimp only; rw [if_pos (by omega)])) <| sr 1 rfl <| sE ?_;clear H a;intro a H
   refine k55 _ ?_;clear k55 K55
   refine condL H rfl (fun hc9 => ?_) (fun hc9 => ?_)
   ·skip
    refine sS H fun K56 k56=>sr 2 rfl <| sE ?_;clear H a;intro a H
    refine k56 _ ?_;clear k56 K56
    refine wp_ret ?_
    refine retC2 (fn := Try.f44) rfl H S (i := 6) rfl rfl rfl (fun _ S => ?_)
    rw [outV_bad hc1 (by omega) (neg_bad (t := t) (p := p) hall2 (by omega) (by omega))]
    exact ⟨rfl, (S.sel [] rfl rfl)⟩
   skip
   refine wp_skip ?_
   refine k54 _ _ ?_
   replace H := H.keep [3, 5, 15, 16, 23, 24, 25, 26, 132, 136, 137] rfl
   refine seq_list fun K57 k57 => ?_
   refine ls 4 H <| sr 4 rfl <| sE ?_;clear H a;intro a H
   apply list_guard (i := 3) (g := 165) (t := 169) (b := true) 4 H S rfl rfl (by kernel_rfl) (by kernel_rfl) rfl rfl
   case h1 =>
    intro hg4
    have hq4 := hg4; try simp only [o1,o2,o3,o4,o5,o6,o7,o8,o9,oa] at hq4
    refine ls 3 H <| sy hg4 <| sf fo_25_2 rfl <| sy hg4 <| sl S 9 one_23 rfl rfl rfl <| sy hg4 <| sr 1 rfl <| sE ?_;intro a H
    refine list_yes' H rfl rfl (by assumption) ?_
    refine list_call H rfl rfl Try.func75 rfl rfl (slices_Contains xs XA xc _ _ (hxs.now S) hxn) ?_
    rintro _ _ a ⟨rfl, S2⟩ H
    replace S := S.call S2;clear S2
    exact wpList_nil ⟨H.strip 4 rfl rfl, (S.sel [0, 1, 2, 3, 4, 5, 6, 7, 8, 9] rfl rfl)⟩
   clear H a S;intro a _ H S
   refine ls 1 H <| sa rfl rfl rfl <| sE ?_;clear H a;intro a H
   refine k57 _ _ ?_;clear k57 K57
   refine cond_ H rfl (fun hc10 => ?_) (fun hc10 => ?_)
   ·skip
    try simp only [o1,o2,o3,o4,o5,o6,o7,o8,o9,oa] at hc10
    have h8 := cnt_next (ps := ps) (xs := xs) (out := out) (pe := pe) (l := l) (P := P) (T := T) (t := t) (p := p)
    rw [if_pos ⟨by omega, hc10.2⟩] at h8
    have hcx := cntT_bd (P := P) (T := T) hall2 hpk (by omega) (by omega) (t := t) (p := p) (by omega)
    have htb3 := thr_bd hall2 hpk (t := t) (p := p) (n := l.length) (Nat.le_refl _)
    replace H := H.keep [3, 5, 15, 16, 23, 24, 25, 26, 132, 136, 137] rfl
    refine sO H <| sr 3 rfl <| si sl_23 sz_3 rfl rfl (ownM.adr S (i := 0) rfl (by omega)) (by omega) <| sd ((does_load one_3 rfl (ownM.rd S (i := 0) rfl (k := p) (j := 0) (by omega) (by omega))).to (v' := .int .i64 (thr ps out pe l t p l.length)) (by unfold lcl; dsimp only; rw [if_pos (by omega)])) <| sd (does_add rfl rfl (by unfold i64ok; omega)) <| sr 1 rfl <| sE ?_;clear H a;intro a H
    refine k51 _ _ ?_
    refine sO H <| sd (does_add rfl rfl (by unfold i64ok; omega)) <| sr 1 rfl <| sE ?_;clear H a;intro a H
    rw [← h8] at H
    exact k48 (g3 - 1) (p + 1) a _ (by omega) (⟨by omega, by omega, fun q hq => by
      by_cases e : q = p
      · subst e; omega
      · exact hneg3 q (by omega)⟩) (S.sel [0, 1, 2, 3, 4, 5, 6, 7, 8, 9] rfl rfl) (H.keep [24, 137, 3, 5, 15, 16, 23, 25, 132, 136] rfl)
   try simp only [o1,o2,o3,o4,o5,o6,o7,o8,o9,oa] at hc10
   have h8 := cnt_next (ps := ps) (xs := xs) (out := out) (pe := pe) (l := l) (P := P) (T := T) (t := t) (p := p)
   rw [if_neg (fun h => by rcases hc10 with h9 | h9; (exact h9 (by omega)); (rw [h.2] at h9; cases h9)), Int.add_zero] at h8
   refine wp_skip ?_
   refine k51 _ _ ?_
   replace H := H.keep [3, 5, 15, 16, 23, 24, 25, 132, 136, 137] rfl
   refine sO H <| sd (does_add rfl rfl (by unfold i64ok; omega)) <| sr 1 rfl <| sE ?_;clear H a;intro a H
   rw [← h8] at H
   exact k48 (g3 - 1) (p + 1) a _ (by omega) (⟨by omega, by omega, fun q hq => by
     by_cases e : q = p
     · subst e; omega
     · exact hneg3 q (by omega)⟩) (S.sel [0, 1, 2, 3, 4, 5, 6, 7, 8, 9] rfl rfl) (H.keep [24, 137, 3, 5, 15, 16, 23, 25, 132, 136] rfl)
  refine wp_exit ?_
  refine k45 _ _ ?_
  refine sO H <| sd (does_add rfl rfl (by unfold i64ok; omega)) <| sr 1 rfl <| sE ?_;clear H a;intro a H
  obtain rfl : P = p := by omega
  rw [cnt_row] at H
  replace S := S.recell (i := 0) rfl (cell' := lcl (fun p9 => thr ps out pe l (((t + 1 : Nat) : Int) - 1) p9 l.length)) (fun k9 j9 hk9 hj9 => by unfold lcl; dsimp only; rw [if_pos (by omega), show ((t + 1 : Nat) : Int) - 1 = (t : Int) by omega])
  exact k42 (g2 - 1) (t + 1) a _ (by omega) (⟨by omega, by omega, fun q hq p9 hp9 => by
    by_cases e : q = t
    · subst e; exact hneg3 p9 (by omega)
    · exact hneg q (by omega) p9 hp9⟩) (S.sel [0, 1, 2, 3, 4, 5, 6, 7, 8, 9] rfl rfl) (H.keep [24, 132, 3, 5, 15, 16, 23] rfl)
 refine wp_exit ?_
 refine k40 _ _ ?_
 refine sS H fun K62 k62=>sr 3 rfl <| sE ?_;clear H a;intro a H
 refine k62 _ ?_;clear k62 K62
 refine wp_ret ?_
 refine retC2 (fn := Try.f44) rfl H S (i := 6) rfl rfl rfl (fun _ S => ?_)
 rw [show cntT ps xs out pe l P T t 0 = outN ps xs out pe l P T by unfold cntT; rw [if_pos (by omega)]; exact cnt_out hV hall2]
 rw [outV_ok hc1 (by omega) (plan_yes (fun k hk => ⟨hall2 k hk, htot k (by omega)⟩) (fun q hq => thrB_yes fun p hp9 => hneg q (by omega) p hp9))]
 exact ⟨rfl, (S.sel [] rfl rfl)⟩

end Go.Proofs.Ytlmddkekeoebcaa
