/- TmA. Printed by gen.py. -/
import Derived.Test.YtopmadlgolnmfaaWyK
import Derived.Test.YtopmadlgolnmfaaChPb
import Derived.Test.YtopmadlgolnmfaaH2
namespace Go.Proofs.Ytopmadlgolnmfaa
open Go.RowKit
set_option linter.unusedVariables false
set_option linter.unusedSimpArgs false
set_option maxRecDepth 100000
set_option maxHeartbeats 4000000


theorem wear_any {w : World} {p : Part} {l : List Use} {v : Value} {w' : World} (h : WearR w p l v w') : ∃ A n c, v = .tuple #[.slice A n c, .int .i64 (wearE p l)] ∧ St w noF [] w' := by
  rcases h with ⟨h0, A, c, rfl, S⟩ | ⟨_, rfl, S⟩
  · exact ⟨A, _, c, by rw [h0], S.sel [] rfl rfl⟩
  · exact ⟨none, 0, 0, rfl, S⟩
theorem prevD_last {l : List Use} {k : Nat} (h : k + 1 = l.length) : (l.getD k Use.zero).day = prevD l l.length := by rw [← h]; rfl
theorem wearE_pv {p : Part} {l : List Use} (h : wearE p l = 0) : 0 ≤ prevD l l.length ∧ p.rates.length ≤ 4 := by
  have h1 := checkP_ok (wearE_zero h).1
  have h2 := h1.hdr
  unfold partHdr at h2
  simp only [decide_eq_true_eq] at h2
  exact ⟨prevD_nonneg h1.uses, h2.2.1⟩
theorem stv_mach {P : Int} {ps : List Psg} {xs : List Int} (V : StV P ps xs) {n : Nat} (hn : n < ps.length) : (∀ j, j < n → 0 ≤ (ps.getD n Psg.zero).mach → (ps.getD j Psg.zero).mach ≠ (ps.getD n Psg.zero).mach) ∧ ∀ j, j < n → (ps.getD n Psg.zero).mach < 0 → (ps.getD j Psg.zero).mach = (ps.getD n Psg.zero).mach → (ps.getD j Psg.zero).mach < 0 :=
  ⟨fun j hj h0 => V.mach n hn h0 j hj, fun j _ h0 e => by omega⟩
theorem kept_st {pl : Int} {ps : List Psg} {xs : List Int} {day : List Hq} {l : List Prm} (h : keptE pl ps xs day l = 0) : StV pl ps xs := st_valid (dayE_ok (keptE_ok h).1).1
theorem keptV_e {pl : Int} {ps : List Psg} {xs : List Int} {day : List Hq} {l : List Prm} : (keptV pl ps xs day l).2.2.2 = keptE pl ps xs day l := by
  unfold keptV
  split
  · rfl
  · split
    · dsimp only; omega
    · dsimp only; omega
theorem sprB_iff {days : Int} {s : Spr} : sprB days s = true ↔ ((0 ≤ s.day ∧ s.day ≤ days - 1) ∧ (0 ≤ s.kind ∧ s.kind ≤ 3) ∧ (1 ≤ s.many ∧ s.many ≤ 8)) := by unfold sprB; rw [decide_eq_true_eq]
theorem ppl_next {pe : List Int} {k : Nat} (h : ∀ q, q < k → 0 ≤ pe.getD q 0 ∧ pe.getD q 0 ≤ 1000) (hk : 0 ≤ pe.getD k 0 ∧ pe.getD k 0 ≤ 1000) : ∀ q, q < k + 1 → 0 ≤ pe.getD q 0 ∧ pe.getD q 0 ≤ 1000 := fun q hq => by
  by_cases e : q = k
  · subst e; exact hk
  · exact h q (by omega)
theorem all_next {f : Nat → Bool} {k : Nat} (h : ∀ q, q < k → f q = true) (hk : f k = true) : ∀ q, q < k + 1 → f q = true := fun q hq => by
  by_cases e : q = k
  · subst e; exact hk
  · exact h q (by omega)


theorem tm_within (n lo hi : Int) (w : World) :
    Calls Try.prog 60 [.int .i64 n, .int .i64 lo, .int .i64 hi].toArray w (Ret (fun v w' => v = .bool (decide (lo ≤ n) && decide (n ≤ hi)) ∧ w' = w)) := by
 refine enter Try.func60 rfl Try.ntmps60 rfl (fun a H => ?_)
 have S := St.start w
 refine sS H fun K1 k1=>sr 1 rfl <| sE ?_;clear H a;intro a H
 refine k1 _ ?_;clear k1 K1
 replace H := H.keep [0, 1, 2] rfl
 refine sS H fun K2 k2=>sr 4 rfl <| sg 3 3 10 13 true rfl rfl (fun hg4 => sy hg4 <| sr 1 rfl <| sy hg4 <| sr 1 rfl <| sy hg4 <| sr 1 rfl <| sz 3 rfl rfl rfl) <| sa rfl rfl rfl <| sr 1 rfl <| sE ?_;clear H a;intro a H
 refine k2 _ ?_;clear k2 K2
 refine wp_ret ?_
 refine ret1 (fn := Try.f60) rfl H rfl ?_
 exact ⟨rfl, rfl⟩

theorem tm_unit (u : Unt) (ps : List Psg) (us : List Unt) (i mb : Nat) (w : World) (F : Nat → Prop) (S : St w F [mapK (fun n : Int => Value.int .i64 n) mb (macP ps us ps.length i)] w) (hur : InS w F 2 u.RA u.rates.length (scell u.rates)) (hurn : u.rates.length ≤ 9223372036854775807) (huu : InS w F 6 u.UA u.uses.length (ucell u.uses)) (huun : u.uses.length ≤ 9223372036854775807) :
    Calls Try.prog 81 [.agg [.int .i64 u.mach, .int .i64 u.every, .int .i64 u.seen, .slice u.RA u.rates.length u.rc, .int .i64 u.worn, .int .i64 u.turns, .int .i64 u.age, .slice u.UA u.uses.length u.uc, .int .i64 u.old, .int .i64 u.tn, .int .i64 u.cl, .int .i64 u.kind].toArray, .map (some mb)].toArray w (Ret (fun v w' => v = .bool (untU ps us i u) ∧ St w F [mapK (fun n : Int => Value.int .i64 n) mb (macP ps us ps.length i)] w')) := by
 refine enter Try.func81 rfl Try.ntmps81 rfl (fun a H => ?_)
 skip
 refine seq_list fun K1 k1 => ?_
 refine list_box H rfl S rfl rfl ?_;clear H a S;intro b2 _ a hb2 hbw2 S H
 refine ls 1 H <| sr 1 rfl <| sE ?_;clear H a;intro a H
 refine k1 _ _ ?_;clear k1 K1
 refine wp_seq_k fun K2 k2 => ?_
 replace H := H.keep [1, 2] rfl
 refine sS H fun K3 k3=>sr 1 rfl <| sf fo_65_0 rfl <| sl S 0 one_3 rfl rfl rfl <| sd ((does_lookupK S (i := 1) rfl mt_117 (keyOk_int rfl) rfl rfl rfl (fun h hh => hh u.mach) : Does _ _ _ _ (.bool (freeM ps us i u.mach)))) <| sr 2 rfl <| sg 4 5 14 18 false rfl rfl (fun hg6 => sy hg6 <| sf fo_65_1 rfl <| sy hg6 <| sl S 0 one_3 rfl rfl rfl <| sy hg6 <| sc rfl Try.func60 rfl rfl (tm_within _ _ _ _) <| sy hg6 <| sr 1 rfl <| sz 4 rfl rfl rfl) <| so rfl rfl rfl <| sr 1 rfl <| sg 4 11 20 24 false rfl rfl (fun hg12 => sy hg12 <| sf fo_65_2 rfl <| sy hg12 <| sl S 0 one_3 rfl rfl rfl <| sy hg12 <| sc rfl Try.func60 rfl rfl (tm_within _ _ _ _) <| sy hg12 <| sr 1 rfl <| sz 4 rfl rfl rfl) <| so rfl rfl rfl <| sr 1 rfl <| sg 4 17 26 30 false rfl rfl (fun hg18 => sy hg18 <| sf fo_65_8 rfl <| sy hg18 <| sl S 0 one_3 rfl rfl rfl <| sy hg18 <| sc rfl Try.func60 rfl rfl (tm_within _ _ _ _) <| sy hg18 <| sr 1 rfl <| sz 4 rfl rfl rfl) <| so rfl rfl rfl <| sE ?_;clear H a;intro a H
 refine k3 _ ?_;clear k3 K3
 refine cond_ H rfl (fun hc1 => ?_) (fun hc1 => ?_)
 ·skip
  try simp only [o1,o2,o3,o4,o5,o6,o7,o8,o9,oa] at hc1
  replace H := H.keep [] rfl
  refine sS H fun K4 k4=>sr 1 rfl <| sE ?_;clear H a;intro a H
  refine k4 _ ?_;clear k4 K4
  refine wp_ret ?_
  refine ret1 (fn := Try.f81) rfl H rfl ?_
  rw [untU_not (ps := ps) (us := us) (i := i) (u := u) (fun h => by have h1 := h.free; have h2 := h.i; unfold untI at h2; rw [h1] at hc1; simp only [Bool.true_eq_false, Bool.not_true, Bool.false_eq_true, not_true_eq_false, false_or] at hc1; omega)]; exact ⟨rfl, (S.sel [1] rfl rfl)⟩
 try simp only [o1,o2,o3,o4,o5,o6,o7,o8,o9,oa] at hc1
 refine wp_skip ?_
 refine k2 _ _ ?_
 refine wp_seq_k fun K5 k5 => ?_
 replace H := H.keep [2] rfl
 refine seq_list fun K6 k6 => ?_
 refine ls 4 H <| sf fo_65_3 rfl <| sd ((does_loadBox agg_62 sz_62 rfl S (i := 0) rfl rfl)) <| sf fo_65_4 rfl <| sl S 0 one_63 rfl rfl rfl <| sE ?_;clear H a;intro a H
 refine list_call H rfl rfl Try.func97 rfl rfl (ret_imp (chain_Wear u.rates u.worn u.turns u.age u.RA u.rc u.uses u.UA u.uc _ (hur.now S) hurn (huu.now S) huun) (fun _ _ h => wear_any h)) ?_;clear H a
 rintro _ _ a ⟨WA, wn, wc, rfl, S2⟩ H
 replace S := S.call S2;clear S2
 refine ls 5 H <| sr 5 rfl <| sE ?_;clear H a;intro a H
 refine k6 _ _ ?_;clear k6 K6
 replace H := H.keep [2, 6] rfl
 refine sS H fun K7 k7=>sr 3 rfl <| sg 4 2 42 46 false rfl rfl (fun hg3 => sy hg3 <| sf fo_65_4 rfl <| sy hg3 <| sl S 0 one_63 rfl rfl rfl <| sy hg3 <| sL sl_63 rfl <| sy hg3 <| sr 1 rfl <| sz 4 rfl rfl rfl) <| so rfl rfl rfl <| sE ?_;clear H a;intro a H
 refine k7 _ ?_;clear k7 K7
 refine cond_ H rfl (fun hc2 => ?_) (fun hc2 => ?_)
 ·skip
  try simp only [o1,o2,o3,o4,o5,o6,o7,o8,o9,oa] at hc2
  refine sS H fun K8 k8=>sr 1 rfl <| sE ?_;clear H a;intro a H
  refine k8 _ ?_;clear k8 K8
  refine wp_ret ?_
  refine ret1 (fn := Try.f81) rfl H rfl ?_
  rw [untU_not (ps := ps) (us := us) (i := i) (u := u) (fun h => by have h1 := h.wear; have h2 := h.i; unfold untI at h2; rcases hc2 with h9 | h9; exact h9 h1; omega)]; exact ⟨rfl, (S.sel [1] rfl rfl)⟩
 try simp only [o1,o2,o3,o4,o5,o6,o7,o8,o9,oa] at hc2
 have hwe : wearE u.part u.uses = 0 := by have h9 := hc2; show wearE ⟨u.rates, u.worn, u.turns, u.age⟩ u.uses = 0; omega
 have hpv := wearE_pv hwe
 refine wp_skip ?_
 refine k5 _ _ ?_
 replace H := H.keep [2] rfl
 refine sS H fun K9 k9=>sr 1 rfl <| sE ?_;clear H a;intro a H
 refine k9 _ ?_;clear k9 K9
 have SR := (S.sel [0, 1] rfl rfl)
 refine meet_sr (X := Int) [2] H rfl (fun x => [(7, .int .i64 x)]) (fun x => []) (fun x => x = prevD u.uses u.uses.length) SR (fun K11 k11 => ?_) ?_
 ·skip
  refine sS H fun K12 k12=>sf fo_65_4 rfl <| sl S 0 one_63 rfl rfl rfl <| sL sl_63 rfl <| sr 1 rfl <| sE ?_;clear H a;intro a H
  refine k12 _ ?_;clear k12 K12
  refine sS H fun K13 k13=>sr 2 rfl <| sE ?_;clear H a;intro a H
  refine k13 _ ?_;clear k13 K13
  refine condL H rfl (fun hc3 => ?_) (fun hc3 => ?_)
  ·skip
   replace H := H.keep [2, 8] rfl
   refine sO H <| sf fo_65_4 rfl <| sl S 0 one_63 rfl rfl rfl <| sr 1 rfl <| sd (does_sub rfl rfl (by unfold i64ok; omega)) <| sI sl_63 sz_72 rfl rfl (huu.adr (by omega)) (by omega) (by omega) <| sp fo_72_0 rfl <| slm one_3 rfl (huu.rd S (by omega) (by omega)) <| sr 1 rfl <| sE ?_;clear H a;intro a H
   exact k11 _ a _ (prevD_last (k := ((u.uses.length : Int) - 1).toNat) (by omega)) (S.sel [0, 1] rfl rfl) (H.keep [7, 2] rfl)
  refine wp_skip ?_
  exact k11 _ a _ (by rw [show u.uses.length = 0 by omega]; rfl) (S.sel [0, 1] rfl rfl) (H.keep [7, 2] rfl)
 clear SR H S a
 intro xm a wm hp S H
 obtain ⟨x, rfl⟩ : ∃ y, y = xm := ⟨_, rfl⟩
 replace H := H.keep [2, 7] rfl
 refine sS H fun K15 k15=>sf fo_65_5 rfl <| sl S 0 one_3 rfl rfl rfl <| sr 1 rfl <| sc rfl Try.func60 rfl rfl (tm_within _ _ _ _) <| sr 1 rfl <| sg 3 4 64 67 true rfl rfl (fun hg5 => sy hg5 <| sf fo_65_6 rfl <| sy hg5 <| sl S 0 one_3 rfl rfl rfl <| sy hg5 <| sc rfl Try.func60 rfl rfl (tm_within _ _ _ _) <| sz 3 rfl rfl rfl) <| sa rfl rfl rfl <| sr 1 rfl <| sg 8 9 69 77 true rfl rfl (fun hg10 => sy hg10 <| sf fo_65_7 rfl <| sy hg10 <| sl S 0 one_3 rfl rfl rfl <| sy hg10 <| sf fo_65_3 rfl <| sy hg10 <| sf fo_62_0 rfl <| sy hg10 <| sl S 0 one_58 rfl rfl rfl <| sy hg10 <| sL sl_58 rfl <| sy hg10 <| sd (does_sub rfl rfl (by unfold i64ok; omega)) <| sy hg10 <| sc rfl Try.func60 rfl rfl (tm_within _ _ _ _) <| sz 8 rfl rfl rfl) <| sa rfl rfl rfl <| sr 1 rfl <| sE ?_;clear H a;intro a H
 refine k15 _ ?_;clear k15 K15
 refine wp_ret ?_
 refine ret1 (fn := Try.f81) rfl H rfl ?_
 refine ⟨congrArg Value.bool ?_, (S.sel [1] rfl rfl)⟩
 rw [Bool.eq_iff_iff, untU_iff]
 simp only [Bool.and_eq_true, decide_eq_true_eq]
 constructor
 · intro h9
   refine ⟨?_, ?_, hwe⟩
   · rcases hc1 with ⟨⟨⟨h1, _⟩, _⟩, _⟩; exact h1
   · unfold untI; omega
 · intro h9
   have h2 := h9.i
   unfold untI at h2
   omega

theorem tm_year (y : Yr) (w : World) (hy : YIn w noF y) (hyb : YBd y) :
    Calls Try.prog 56 [.agg [.int .i64 y.days, .int .i64 y.pl, .slice y.PA y.ps.length y.pc, .slice y.XA y.xs.length y.xc, .slice y.BA y.pe.length y.bc, .int .i64 y.limit, .bool y.help, .slice y.QA y.prs.length y.qc, .slice y.VA y.us.length y.vc, .int .i64 y.crew, .slice y.SA y.sps.length y.sc].toArray].toArray w (Ret (fun v w' => v = .int .i64 (yearE y) ∧ St w noF [] w')) := by
 have hn1 := hyb.psn; have hn2 := hyb.pen; have hn3 := hyb.usn; have hn4 := hyb.spn
 refine enter Try.func56 rfl Try.ntmps56 rfl (fun a H => ?_)
 have S := St.start w
 refine seq_list fun K1 k1 => ?_
 refine list_box H rfl S rfl rfl ?_;clear H a S;intro b1 _ a hb1 hbw1 S H
 refine ls 1 H <| sr 1 rfl <| sE ?_;clear H a;intro a H
 refine k1 _ _ ?_;clear k1 K1
 refine wp_seq_k fun K2 k2 => ?_
 replace H := H.keep [1] rfl
 refine seq_list fun K3 k3 => ?_
 refine ls 4 H <| sf fo_30_1 rfl <| sd ((does_loadBox agg_25 sz_25 rfl S (i := 0) rfl rfl)) <| sf fo_30_5 rfl <| sl S 0 one_26 rfl rfl rfl <| sE ?_;clear H a;intro a H
 refine list_call H rfl rfl Try.func15 rfl rfl (ways_Kept y.pl y.ps y.PA y.pc y.xs y.XA y.xc ([] : List Hq) none 0 (fun _ => none) (fun _ => 0) y.prs y.QA y.qc _ (hy.ps.now S) hyb.psn (hy.xs.now S) hyb.xsn InS.nil (by decide) (fun k hk => absurd hk (Nat.not_lt_zero k)) (fun k hk => absurd hk (Nat.not_lt_zero k)) (hy.prs.now S) hyb.prn) ?_;clear H a
 rintro _ _ a ⟨rfl, S2⟩ H
 replace S := S.call S2;clear S2
 rw [keptV_e] at H
 refine ls 9 H <| sr 9 rfl <| sE ?_;clear H a;intro a H
 refine k3 _ _ ?_;clear k3 K3
 replace H := H.keep [1, 6] rfl
 refine sS H fun K4 k4=>sr 2 rfl <| sE ?_;clear H a;intro a H
 refine k4 _ ?_;clear k4 K4
 refine condN H rfl (fun hc1 => ?_) (fun hc1 => ?_)
 ·skip
  refine sS H fun K5 k5=>sr 2 rfl <| sE ?_;clear H a;intro a H
  refine k5 _ ?_;clear k5 K5
  refine wp_ret ?_
  refine ret1 (fn := Try.f56) rfl H rfl ?_
  exact ⟨congrArg _ (yearE_kept hc1).symm, (S.sel [] rfl rfl)⟩
 have hke : keptE y.pl y.ps y.xs [] y.prs = 0 := by omega
 have hV := kept_st hke
 refine wp_skip ?_
 refine k2 _ _ ?_
 refine wp_seq_k fun K6 k6 => ?_
 replace H := H.keep [1] rfl
 refine sS H fun K7 k7=>sf fo_30_0 rfl <| sl S 0 one_3 rfl rfl rfl <| sc rfl Try.func60 rfl rfl (tm_within _ _ _ _) <| sr 2 rfl <| sg 7 4 33 40 false rfl rfl (fun hg5 => by
     have hq5 := hg5;try simp only [o1,o2,o3,o4,o5,o6,o7,o8,o9,oa] at hq5
     exact sy hg5 <| sf fo_30_2 rfl <| sy hg5 <| sl S 0 one_23 rfl rfl rfl <| sy hg5 <| sL sl_23 rfl <| sy hg5 <| sf fo_30_1 rfl <| sy hg5 <| sf fo_25_0 rfl <| sy hg5 <| sl S 0 one_3 rfl rfl rfl <| sy hg5 <| sr 1 rfl <| sz 7 rfl rfl rfl) <| so rfl rfl rfl <| sr 1 rfl <| sg 4 13 42 46 false rfl rfl (fun hg14 => by
     have hq14 := hg14;try simp only [o1,o2,o3,o4,o5,o6,o7,o8,o9,oa] at hq14
     exact sy hg14 <| sf fo_30_3 rfl <| sy hg14 <| sl S 0 one_3 rfl rfl rfl <| sy hg14 <| sc rfl Try.func60 rfl rfl (tm_within _ _ _ _) <| sy hg14 <| sr 1 rfl <| sz 4 rfl rfl rfl) <| so rfl rfl rfl <| sr 1 rfl <| sg 4 19 48 52 false rfl rfl (fun hg20 => by
     have hq20 := hg20;try simp only [o1,o2,o3,o4,o5,o6,o7,o8,o9,oa] at hq20
     exact sy hg20 <| sf fo_30_7 rfl <| sy hg20 <| sl S 0 one_3 rfl rfl rfl <| sy hg20 <| sc rfl Try.func60 rfl rfl (tm_within _ _ _ _) <| sy hg20 <| sr 1 rfl <| sz 4 rfl rfl rfl) <| so rfl rfl rfl <| sr 1 rfl <| sg 4 25 54 58 false rfl rfl (fun hg26 => by
     have hq26 := hg26;try simp only [o1,o2,o3,o4,o5,o6,o7,o8,o9,oa] at hq26
     exact sy hg26 <| sf fo_30_8 rfl <| sy hg26 <| sl S 0 one_28 rfl rfl rfl <| sy hg26 <| sL sl_28 rfl <| sy hg26 <| sr 1 rfl <| sz 4 rfl rfl rfl) <| so rfl rfl rfl <| sE ?_;clear H a;intro a H
 refine k7 _ ?_;clear k7 K7
 refine cond_ H rfl (fun hc2 => ?_) (fun hc2 => ?_)
 ·skip
  try simp only [o1,o2,o3,o4,o5,o6,o7,o8,o9,oa] at hc2
  replace H := H.keep [] rfl
  refine sS H fun K8 k8=>sr 1 rfl <| sE ?_;clear H a;intro a H
  refine k8 _ ?_;clear k8 K8
  refine wp_ret ?_
  refine ret1 (fn := Try.f56) rfl H rfl ?_
  rw [yearE_yr hke (fun h => by unfold yrI at h; omega)]; exact ⟨rfl, (S.sel [] rfl rfl)⟩
 try simp only [o1,o2,o3,o4,o5,o6,o7,o8,o9,oa] at hc2
 refine wp_skip ?_
 refine k6 _ _ ?_
 refine wp_seq_k fun K9 k9 => ?_
 refine sS H fun K10 k10=>sf fo_30_2 rfl <| sl S 0 one_23 rfl rfl rfl <| sL sl_23 rfl <| sr 1 rfl <| sE ?_;clear H a;intro a H
 refine k10 _ ?_;clear k10 K10
 refine wp_block ?_
 refine loop_st (X := Nat) (R0 := _) [1, 61, 62] H rfl (fun k => [(63, .int .i64 (k : Int))]) (fun k => []) (fun g k => k ≤ y.pe.length ∧ g + k = y.pe.length ∧ ∀ q, q < k → 0 ≤ y.pe.getD q 0 ∧ y.pe.getD q 0 ≤ 1000) (y.pe.length) 0 ?_ (S.sel [0] rfl rfl) (H.keep [63, 1, 61, 62] rfl) ?_
 · exact ⟨by omega, by omega, fun q hq => absurd hq (Nat.not_lt_zero q)⟩
 clear H S a
 intro g1 x1 a w1 hp S H K11 k11
 obtain ⟨k, rfl⟩ : ∃ y, y = x1 := ⟨_, rfl⟩
 refine sS H fun K12 k12=>sr 1 rfl <| sE ?_;clear H a;intro a H
 refine k12 _ ?_;clear k12 K12
 refine wp_seq_k fun K13 k13 => ?_
 refine condL H rfl (fun hc3 => ?_) (fun hc3 => ?_)
 ·skip
  refine wp_skip ?_
  refine k13 _ _ ?_
  refine wp_seq_k fun K14 k14 => ?_
  refine wp_block ?_
  refine sS H fun K15 k15=>si sl_23 sz_3 rfl rfl (hy.pe.adr (by omega)) (by omega) <| slm one_3 rfl (hy.pe.rd S (by omega) (by omega)) <| sr 1 rfl <| sE ?_;clear H a;intro a H
  refine k15 _ ?_;clear k15 K15
  refine sS H fun K16 k16=>sr 1 rfl <| sc rfl Try.func60 rfl rfl (tm_within _ _ _ _) <| sr 1 rfl <| sE ?_;clear H a;intro a H
  refine k16 _ ?_;clear k16 K16
  refine cond_ H rfl (fun hc4 => ?_) (fun hc4 => ?_)
  ·skip
   try simp only [o1,o2,o3,o4,o5,o6,o7,o8,o9,oa] at hc4
   refine sS H fun K17 k17=>sr 1 rfl <| sE ?_;clear H a;intro a H
   refine k17 _ ?_;clear k17 K17
   refine wp_ret ?_
   refine ret1 (fn := Try.f56) rfl H rfl ?_
   rw [yearE_yr hke (fun h => by have h9 := h.2.1.2 k (by omega); omega)]; exact ⟨rfl, (S.sel [] rfl rfl)⟩
  try simp only [o1,o2,o3,o4,o5,o6,o7,o8,o9,oa] at hc4
  refine wp_skip ?_
  refine k14 _ _ ?_
  replace H := H.keep [1, 61, 62, 63] rfl
  refine sO H <| sd (does_add rfl rfl (by unfold i64ok; omega)) <| sr 1 rfl <| sE ?_;clear H a;intro a H
  exact k11 (g1 - 1) (k + 1) a _ (by omega) (⟨by omega, by omega, ppl_next hp.2.2 (by omega)⟩) (S.sel [0] rfl rfl) (H.keep [63, 1, 61, 62] rfl)
 refine wp_exit ?_
 refine k9 _ _ ?_
 refine wp_seq_k fun K19 k19 => ?_
 refine sS H fun K20 k20=>sf fo_30_8 rfl <| sl S 0 one_28 rfl rfl rfl <| sL sl_28 rfl <| sr 1 rfl <| sE ?_;clear H a;intro a H
 refine k20 _ ?_;clear k20 K20
 refine wp_block ?_
 have hpe9 : ∀ q, q < y.pe.length → 0 ≤ y.pe.getD q 0 ∧ y.pe.getD q 0 ≤ 1000 := fun q hq => hp.2.2 q (by omega)
 refine loop_st (X := Nat) (R0 := _) [1, 72, 73] H rfl (fun k => [(74, .int .i64 (k : Int))]) (fun k => []) (fun g k => k ≤ y.sps.length ∧ g + k = y.sps.length ∧ ∀ q, q < k → sprB y.days (y.sps.getD q Spr.zero) = true) (y.sps.length) 0 ?_ (S.sel [0] rfl rfl) (H.keep [74, 1, 72, 73] rfl) ?_
 · exact ⟨by omega, by omega, fun q hq => absurd hq (Nat.not_lt_zero q)⟩
 clear H S a
 intro g2 x2 a w2 hp S H K21 k21
 obtain ⟨k, rfl⟩ : ∃ y, y = x2 := ⟨_, rfl⟩
 refine sS H fun K22 k22=>sr 1 rfl <| sE ?_;clear H a;intro a H
 refine k22 _ ?_;clear k22 K22
 refine wp_seq_k fun K23 k23 => ?_
 refine condL H rfl (fun hc5 => ?_) (fun hc5 => ?_)
 ·skip
  refine wp_skip ?_
  refine k23 _ _ ?_
  refine wp_seq_k fun K24 k24 => ?_
  refine wp_block ?_
  refine seq_list fun K25 k25 => ?_
  refine ls 2 H <| si sl_28 sz_123 rfl rfl (hy.sps.adr (by omega)) (by omega) <| sd ((does_loadIn agg_123 sz_123 rfl S hy.sps (by omega) (by omega))) <| sE ?_;clear H a;intro a H
  refine list_alloc H rfl S ze_123 ?_;clear H a S;intro b10 _ a hb10 hbw10 S H
  refine list_store H S (i := 0) rfl rfl rfl rfl sz_123 rfl rfl ?_
  clear H a S;intro _ a S H
  refine k25 _ _ ?_;clear k25 K25
  replace H := H.keep [1, 10, 72, 73, 74] rfl
  refine sS H fun K26 k26=>sf fo_123_0 rfl <| sl S 0 one_3 rfl rfl rfl <| sf fo_30_0 rfl <| sl S 1 one_3 rfl rfl rfl <| sd (does_sub rfl rfl (by unfold i64ok; omega)) <| sc rfl Try.func60 rfl rfl (tm_within _ _ _ _) <| sr 2 rfl <| sg 4 7 85 89 false rfl rfl (fun hg8 => by
      have hq8 := hg8;try simp only [o1,o2,o3,o4,o5,o6,o7,o8,o9,oa] at hq8
      exact sy hg8 <| sf fo_123_1 rfl <| sy hg8 <| sl S 0 one_3 rfl rfl rfl <| sy hg8 <| sc rfl Try.func60 rfl rfl (tm_within _ _ _ _) <| sy hg8 <| sr 1 rfl <| sz 4 rfl rfl rfl) <| so rfl rfl rfl <| sr 1 rfl <| sg 4 13 91 95 false rfl rfl (fun hg14 => by
      have hq14 := hg14;try simp only [o1,o2,o3,o4,o5,o6,o7,o8,o9,oa] at hq14
      exact sy hg14 <| sf fo_123_2 rfl <| sy hg14 <| sl S 0 one_3 rfl rfl rfl <| sy hg14 <| sc rfl Try.func60 rfl rfl (tm_within _ _ _ _) <| sy hg14 <| sr 1 rfl <| sz 4 rfl rfl rfl) <| so rfl rfl rfl <| sE ?_;clear H a;intro a H
  refine k26 _ ?_;clear k26 K26
  refine cond_ H rfl (fun hc6 => ?_) (fun hc6 => ?_)
  ·skip
   try simp only [o1,o2,o3,o4,o5,o6,o7,o8,o9,oa] at hc6
   replace H := H.keep [] rfl
   refine sS H fun K27 k27=>sr 1 rfl <| sE ?_;clear H a;intro a H
   refine k27 _ ?_;clear k27 K27
   refine wp_ret ?_
   refine ret1 (fn := Try.f56) rfl H rfl ?_
   rw [yearE_yr hke (fun h => by have h9 := sprB_iff.1 (h.2.2.2.2.2 k (by omega)); omega)]; exact ⟨rfl, (S.sel [] rfl rfl)⟩
  try simp only [o1,o2,o3,o4,o5,o6,o7,o8,o9,oa] at hc6
  refine wp_skip ?_
  refine k24 _ _ ?_
  refine sO H <| sd (does_add rfl rfl (by unfold i64ok; omega)) <| sr 1 rfl <| sE ?_;clear H a;intro a H
  exact k21 (g2 - 1) (k + 1) a _ (by omega) (⟨by omega, by omega, all_next (f := fun q => sprB y.days (y.sps.getD q Spr.zero)) hp.2.2 (sprB_iff.2 (by omega))⟩) (S.sel [1] rfl rfl) (H.keep [74, 1, 72, 73] rfl)
 refine wp_exit ?_
 refine k19 _ _ ?_
 refine wp_seq_k fun K29 k29 => ?_
 refine sS H fun K30 k30=>sf fo_30_6 rfl <| sl S 0 one_27 rfl rfl rfl <| sL sl_27 rfl <| sr 1 rfl <| sE ?_;clear H a;intro a H
 refine k30 _ ?_;clear k30 K30
 refine condL H rfl (fun hc7 => ?_) (fun hc7 => ?_)
 ·skip
  refine sS H fun K31 k31=>sr 1 rfl <| sE ?_;clear H a;intro a H
  refine k31 _ ?_;clear k31 K31
  refine wp_ret ?_
  refine ret1 (fn := Try.f56) rfl H rfl ?_
  rw [yearE_many hke (by
    unfold yrI
    have h9 := hp.2.2
    exact ⟨by omega, ⟨by omega, hpe9⟩, by omega, by omega, by omega, fun q hq => h9 q (by omega)⟩) (by omega)]; exact ⟨rfl, (S.sel [] rfl rfl)⟩
 refine wp_skip ?_
 refine k29 _ _ ?_
 replace H := H.keep [1] rfl
 refine seq_list fun K32 k32 => ?_
 refine list_makeMapK (fun n : Int => Value.int .i64 n) (macP y.ps y.us 0 0) macP_none H rfl S ?_;clear H a S;intro mb _ a hmb S H
 refine ls 1 H <| sr 1 rfl <| sE ?_;clear H a;intro a H
 refine k32 _ _ ?_;clear k32 K32
 refine wp_seq_k fun K33 k33 => ?_
 refine sS H fun K34 k34=>sf fo_30_1 rfl <| sf fo_25_1 rfl <| sl S 1 one_22 rfl rfl rfl <| sL sl_22 rfl <| sr 1 rfl <| sE ?_;clear H a;intro a H
 refine k34 _ ?_;clear k34 K34
 refine wp_block ?_
 have hyi : yrI y := by
   unfold yrI
   have h9 := hp.2.2
   exact ⟨by omega, ⟨by omega, hpe9⟩, by omega, by omega, by omega, fun q hq => h9 q (by omega)⟩
 refine loop_st (X := Nat) (R0 := _) [1, 11, 105, 106] H rfl (fun k => [(107, .int .i64 (k : Int))]) (fun k => [mapK (fun n : Int => Value.int .i64 n) mb (macP y.ps y.us k 0)]) (fun g k => k ≤ y.ps.length ∧ g + k = y.ps.length) (y.ps.length) 0 ?_ (S.sel [0, 1] rfl rfl) (H.keep [107, 1, 11, 105, 106] rfl) ?_
 · exact ⟨by omega, by omega⟩
 clear H S a
 intro g3 x3 a w3 hp S H K35 k35
 obtain ⟨k, rfl⟩ : ∃ y, y = x3 := ⟨_, rfl⟩
 refine sS H fun K36 k36=>sr 1 rfl <| sE ?_;clear H a;intro a H
 refine k36 _ ?_;clear k36 K36
 refine wp_seq_k fun K37 k37 => ?_
 refine condL H rfl (fun hc8 => ?_) (fun hc8 => ?_)
 ·skip
  refine wp_skip ?_
  refine k37 _ _ ?_
  refine wp_seq_k fun K38 k38 => ?_
  refine wp_block ?_
  refine seq_list fun K39 k39 => ?_
  refine ls 2 H <| si sl_22 sz_128 rfl rfl (hy.ps.adr (by omega)) (by omega) <| sd ((does_loadIn agg_128 sz_128 rfl S hy.ps (by omega) (by omega))) <| sE ?_;clear H a;intro a H
  refine list_alloc H rfl S ze_128 ?_;clear H a S;intro b13 _ a hb13 hbw13 S H
  refine list_store H S (i := 0) rfl rfl rfl rfl sz_128 rfl rfl ?_
  clear H a S;intro _ a S H
  refine k39 _ _ ?_;clear k39 K39
  replace H := H.keep [1, 11, 13, 105, 106, 107] rfl
  refine one_list ?_
  refine ls 6 H <| sr 1 rfl <| sf fo_128_5 rfl <| sl S 0 one_3 rfl rfl rfl <| sf fo_128_5 rfl <| sl S 0 one_3 rfl rfl rfl <| sr 1 rfl <| sE ?_;clear H a;intro a H
  refine list_mapUpdateK (k := (y.ps.getD k Psg.zero).mach) (macP y.ps y.us (k + 1) 0) H S (i := 1) rfl mt_117 (keyOk_int rfl) rfl rfl rfl (macP_ps (stv_mach hV (by omega)).1 (stv_mach hV (by omega)).2) ?_;clear H a S;intro _ a S H
  refine k38 _ _ ?_
  refine sO H <| sd (does_add rfl rfl (by unfold i64ok; omega)) <| sr 1 rfl <| sE ?_;clear H a;intro a H
  exact k35 (g3 - 1) (k + 1) a _ (by omega) (⟨by omega, by omega⟩) (S.sel [1, 2] rfl rfl) (H.keep [107, 1, 11, 105, 106] rfl)
 refine wp_exit ?_
 refine k33 _ _ ?_
 refine wp_seq_k fun K42 k42 => ?_
 replace H := H.keep [1, 11] rfl
 refine sS H fun K43 k43=>sf fo_30_6 rfl <| sl S 1 one_27 rfl rfl rfl <| sL sl_27 rfl <| sr 1 rfl <| sE ?_;clear H a;intro a H
 refine k43 _ ?_;clear k43 K43
 refine wp_block ?_
 obtain rfl : k = y.ps.length := by omega
 refine loop_st (X := Nat) (R0 := _) [11, 119, 120] H rfl (fun k => [(121, .int .i64 (k : Int))]) (fun k => [mapK (fun n : Int => Value.int .i64 n) mb (macP y.ps y.us y.ps.length k)]) (fun g k => k ≤ y.us.length ∧ g + k = y.us.length ∧ ∀ q, q < k → untB y.ps y.us q = true) (y.us.length) 0 ?_ (S.sel [0, 1] rfl rfl) (H.keep [121, 11, 119, 120] rfl) ?_
 · exact ⟨by omega, by omega, fun q hq => absurd hq (Nat.not_lt_zero q)⟩
 clear H S a
 intro g4 x4 a w4 hp S H K44 k44
 obtain ⟨k, rfl⟩ : ∃ y, y = x4 := ⟨_, rfl⟩
 refine sS H fun K45 k45=>sr 1 rfl <| sE ?_;clear H a;intro a H
 refine k45 _ ?_;clear k45 K45
 refine wp_seq_k fun K46 k46 => ?_
 refine condL H rfl (fun hc9 => ?_) (fun hc9 => ?_)
 ·skip
  refine wp_skip ?_
  refine k46 _ _ ?_
  refine wp_seq_k fun K47 k47 => ?_
  refine wp_block ?_
  refine seq_list fun K48 k48 => ?_
  refine ls 2 H <| si sl_27 sz_65 rfl rfl (hy.us.adr (by omega)) (by omega) <| sd ((does_loadIn agg_65 sz_65 rfl S hy.us (by omega) (by omega))) <| sE ?_;clear H a;intro a H
  refine list_alloc H rfl S ze_65 ?_;clear H a S;intro b15 _ a hb15 hbw15 S H
  refine list_store H S (i := 0) rfl rfl rfl rfl sz_65 rfl rfl ?_
  clear H a S;intro _ a S H
  refine k48 _ _ ?_;clear k48 K48
  refine wp_seq_k fun K49 k49 => ?_
  refine seq_list fun K50 k50 => ?_
  refine ls 2 H <| sd ((does_loadBox agg_65 sz_65 rfl S (i := 0) rfl rfl)) <| sr 1 rfl <| sE ?_;clear H a;intro a H
  refine list_call H rfl rfl Try.func81 rfl rfl (tm_unit (y.u k) y.ps y.us k mb _ _ ((S.sel [1] rfl rfl).startR) ((hy.rt k (by omega)).nowR (S.sel [1] rfl rfl)) (hyb.rtn (by omega)) ((hy.ul k (by omega)).nowR (S.sel [1] rfl rfl)) (hyb.uln (by omega))) ?_;clear H a
  rintro _ _ a ⟨rfl, S2⟩ H
  replace S := St.callR (M := [_]) (S.sel [1, 0, 2] rfl rfl) S2;clear S2
  refine ls 1 H <| sr 1 rfl <| sE ?_;clear H a;intro a H
  refine k50 _ _ ?_;clear k50 K50
  refine cond_ H rfl (fun hc10 => ?_) (fun hc10 => ?_)
  ·skip
   try simp only [o1,o2,o3,o4,o5,o6,o7,o8,o9,oa] at hc10
   replace H := H.keep [] rfl
   refine sS H fun K51 k51=>sr 1 rfl <| sE ?_;clear H a;intro a H
   refine k51 _ ?_;clear k51 K51
   refine wp_ret ?_
   refine ret1 (fn := Try.f56) rfl H rfl ?_
   rw [yearE_unit hke hyi (by omega) (show k < y.us.length by omega) hc10]; exact ⟨rfl, (S.sel [] rfl rfl)⟩
  try simp only [o1,o2,o3,o4,o5,o6,o7,o8,o9,oa] at hc10
  refine wp_skip ?_
  refine k49 _ _ ?_
  refine one_list ?_
  refine ls 3 H <| sr 1 rfl <| sf fo_65_0 rfl <| sl S 1 one_3 rfl rfl rfl <| sE ?_;clear H a;intro a H
  refine list_mapUpdateK (k := (y.us.getD k Unt.zero).mach) (macP y.ps y.us y.ps.length (k + 1)) H S (i := 0) rfl mt_117 (keyOk_int rfl) rfl rfl rfl macP_us ?_;clear H a S;intro _ a S H
  refine k47 _ _ ?_
  refine sO H <| sd (does_add rfl rfl (by unfold i64ok; omega)) <| sr 1 rfl <| sE ?_;clear H a;intro a H
  exact k44 (g4 - 1) (k + 1) a _ (by omega) (⟨by omega, by omega, all_next (f := untB y.ps y.us) hp.2.2 hc10⟩) (S.sel [0, 2] rfl rfl) (H.keep [121, 11, 119, 120] rfl)
 refine wp_exit ?_
 refine k42 _ _ ?_
 refine sS H fun K54 k54=>sr 1 rfl <| sE ?_;clear H a;intro a H
 refine k54 _ ?_;clear k54 K54
 refine wp_ret ?_
 refine ret1 (fn := Try.f56) rfl H rfl ?_
 rw [yearE_ok hke hyi (by omega) (allN_iff.2 fun q hq => hp.2.2 q (by omega))]; exact ⟨rfl, (S.sel [] rfl rfl)⟩

end Go.Proofs.Ytopmadlgolnmfaa
