/- ChPb. Printed by gen.py. -/
import Derived.Test.YtopmadlgolnmfaaChPa
namespace Go.Proofs.Ytopmadlgolnmfaa
open Go.RowKit
set_option linter.unusedVariables false
set_option linter.unusedSimpArgs false
set_option maxRecDepth 100000
set_option maxHeartbeats 4000000


theorem chain_Wear (rates : List (Int × Int)) (pwn ptn pag : Int) (RA : Option Addr) (rcp : Nat) (l : List Use) (A : Option Addr) (cp : Nat) (w : World) (hr : InS w noF 2 RA rates.length (scell rates)) (hrn : rates.length ≤ 9223372036854775807) (hl : InS w noF 6 A l.length (ucell l)) (hn : l.length ≤ 9223372036854775807) :
    Calls Try.prog 97 [.agg [.slice RA rates.length rcp, .int .i64 pwn, .int .i64 ptn, .int .i64 pag].toArray, .slice A l.length cp].toArray w (Ret (WearR w (⟨rates, pwn, ptn, pag⟩ : Part) l)) := by
 refine enter Try.func97 rfl Try.ntmps97 rfl (fun a H => ?_)
 have S := St.start w
 refine seq_list fun K1 k1 => ?_
 refine list_box H rfl S rfl rfl ?_;clear H a S;intro b2 _ a hb2 hbw2 S H
 refine ls 2 H <| sr 2 rfl <| sE ?_;clear H a;intro a H
 refine k1 _ _ ?_;clear k1 K1
 refine wp_seq_k fun K2 k2 => ?_
 refine seq_list fun K3 k3 => ?_
 refine ls 2 H <| sd ((does_loadBox agg_62 sz_62 rfl S (i := 0) rfl rfl)) <| sr 1 rfl <| sE ?_;clear H a;intro a H
 refine list_call H rfl rfl Try.func51 rfl rfl (chain_CheckPart rates pwn ptn pag RA rcp l A cp _ (hr.now S) hrn (hl.now S) hn) ?_;clear H a
 rintro _ _ a ⟨rfl, S2⟩ H
 replace S := S.call S2;clear S2
 refine ls 1 H <| sr 1 rfl <| sE ?_;clear H a;intro a H
 refine k3 _ _ ?_;clear k3 K3
 refine sS H fun K4 k4=>sr 2 rfl <| sE ?_;clear H a;intro a H
 refine k4 _ ?_;clear k4 K4
 refine condN H rfl (fun hc1 => ?_) (fun hc1 => ?_)
 ·skip
  replace H := H.keep [6] rfl
  refine sS H fun K5 k5=>sr 3 rfl <| sE ?_;clear H a;intro a H
  refine k5 _ ?_;clear k5 K5
  refine wp_ret ?_
  refine ret2 (fn := Try.f97) rfl H rfl rfl ?_
  have e9 := wearE_bad (p := (⟨rates, pwn, ptn, pag⟩ : Part)) (l := l) (by omega)
  exact .inr ⟨by omega, by rw [e9], (S.sel [] rfl rfl)⟩
 refine wp_skip ?_
 refine k2 _ _ ?_
 have h0 : checkP (⟨rates, pwn, ptn, pag⟩ : Part) l = 0 := by omega
 have hok := checkP_ok h0
 by_cases hA : IsAt (⟨rates, pwn, ptn, pag⟩ : Part) l l.length
 ·skip
  replace H := H.keep [1, 2] rfl
  refine seq_list fun K6 k6 => ?_
  refine ls 2 H <| sd ((does_loadBox agg_62 sz_62 rfl S (i := 0) rfl rfl)) <| sr 1 rfl <| sE ?_;clear H a;intro a H
  refine list_call H rfl rfl Try.func107 rfl rfl (ret_imp (chain_worn rates pwn ptn pag RA rcp l A cp _ (hr.now S) hrn (hl.now S) hn hok) (fun _ _ => worn_yes hA)) ?_;clear H a
  rintro _ _ a ⟨A', c', rfl, S2⟩ H
  replace S := S.call S2;clear S2
  refine ls 5 H <| sr 5 rfl <| sE ?_;clear H a;intro a H
  refine k6 _ _ ?_;clear k6 K6
  refine wp_seq_k fun K7 k7 => ?_
  replace H := H.keep [7, 8] rfl
  refine sS H fun K8 k8=>sr 2 rfl <| sE ?_;clear H a;intro a H
  refine k8 _ ?_;clear k8 K8
  refine cond_ H rfl (fun hc2 => ?_) (fun hc2 => ?_)
  ·skip
   skip
   cases hc2
  skip
  refine wp_skip ?_
  refine k7 _ _ ?_
  refine sS H fun K9 k9=>sr 3 rfl <| sE ?_;clear H a;intro a H
  refine k9 _ ?_;clear k9 K9
  refine wp_ret ?_
  refine ret2 (fn := Try.f97) rfl H rfl rfl ?_
  exact .inl ⟨wearE_ok h0 hA, A', c', rfl, (S.sel [0] rfl rfl)⟩
 replace H := H.keep [1, 2] rfl
 refine seq_list fun K10 k10 => ?_
 refine ls 2 H <| sd ((does_loadBox agg_62 sz_62 rfl S (i := 0) rfl rfl)) <| sr 1 rfl <| sE ?_;clear H a;intro a H
 refine list_call H rfl rfl Try.func107 rfl rfl (ret_imp (chain_worn rates pwn ptn pag RA rcp l A cp _ (hr.now S) hrn (hl.now S) hn hok) (fun _ _ => worn_no hA)) ?_;clear H a
 rintro _ _ a ⟨rfl, S2⟩ H
 replace S := S.call S2;clear S2
 refine ls 5 H <| sr 5 rfl <| sE ?_;clear H a;intro a H
 refine k10 _ _ ?_;clear k10 K10
 refine wp_seq_k fun K11 k11 => ?_
 replace H := H.keep [7, 8] rfl
 refine sS H fun K12 k12=>sr 2 rfl <| sE ?_;clear H a;intro a H
 refine k12 _ ?_;clear k12 K12
 refine cond_ H rfl (fun hc3 => ?_) (fun hc3 => ?_)
 ·skip
  skip
  refine sS H fun K13 k13=>sr 2 rfl <| sE ?_;clear H a;intro a H
  refine k13 _ ?_;clear k13 K13
  refine wp_ret ?_
  refine ret2 (fn := Try.f97) rfl H rfl rfl ?_
  have e9 := wearE_none h0 hA
  exact .inr ⟨by omega, by rw [e9], (S.sel [] rfl rfl)⟩
 skip
 cases hc3

theorem ref_Refuted (rates : List (Int × Int)) (pwn ptn pag : Int) (RA : Option Addr) (rcp : Nat) (l : List Use) (A : Option Addr) (cp : Nat) (w : World) (hr : InS w noF 2 RA rates.length (scell rates)) (hrn : rates.length ≤ 9223372036854775807) (hl : InS w noF 6 A l.length (ucell l)) (hn : l.length ≤ 9223372036854775807) :
    Calls Try.prog 75 [.agg [.slice RA rates.length rcp, .int .i64 pwn, .int .i64 ptn, .int .i64 pag].toArray, .slice A l.length cp].toArray w (Ret (fun v w' => v = .tuple #[.int .i64 (refO (⟨rates, pwn, ptn, pag⟩ : Part) l).1, .bool (refO (⟨rates, pwn, ptn, pag⟩ : Part) l).2.1, .int .i64 (refO (⟨rates, pwn, ptn, pag⟩ : Part) l).2.2] ∧ St w noF [] w')) := by
 refine enter Try.func75 rfl Try.ntmps75 rfl (fun a H => ?_)
 have S := St.start w
 refine seq_list fun K1 k1 => ?_
 refine list_box H rfl S rfl rfl ?_;clear H a S;intro b2 _ a hb2 hbw2 S H
 refine ls 3 H <| sr 3 rfl <| sE ?_;clear H a;intro a H
 refine k1 _ _ ?_;clear k1 K1
 refine seq_list fun K2 k2 => ?_
 refine ls 2 H <| sd ((does_loadBox agg_62 sz_62 rfl S (i := 0) rfl rfl)) <| sr 1 rfl <| sE ?_;clear H a;intro a H
 refine list_call H rfl rfl Try.func74 rfl rfl (ref_CheckPart rates pwn ptn pag RA rcp l A cp _ (hr.now S) hrn (hl.now S) hn) ?_;clear H a
 rintro _ _ a ⟨rfl, S2⟩ H
 replace S := S.call S2;clear S2
 refine ls 1 H <| sr 1 rfl <| sE ?_;clear H a;intro a H
 refine k2 _ _ ?_;clear k2 K2
 refine wp_seq_k fun K3 k3 => ?_
 replace H := H.keep [1, 2, 7] rfl
 refine sS H fun K4 k4=>sr 2 rfl <| sE ?_;clear H a;intro a H
 refine k4 _ ?_;clear k4 K4
 refine condN H rfl (fun hc1 => ?_) (fun hc1 => ?_)
 ·skip
  refine sS H fun K5 k5=>sr 4 rfl <| sE ?_;clear H a;intro a H
  refine k5 _ ?_;clear k5 K5
  refine wp_ret ?_
  refine ret3 (fn := Try.f75) rfl H rfl rfl rfl ?_
  unfold refO; rw [if_pos (by omega)]; exact ⟨rfl, (S.sel [] rfl rfl)⟩
 refine wp_skip ?_
 refine k3 _ _ ?_
 have h0 : checkP (⟨rates, pwn, ptn, pag⟩ : Part) l = 0 := by omega
 have hok := checkP_ok h0
 rcases (show atN (⟨rates, pwn, ptn, pag⟩ : Part) l = l.length ∨ atN (⟨rates, pwn, ptn, pag⟩ : Part) l < l.length from by have := (atN_is (⟨rates, pwn, ptn, pag⟩ : Part) l).le; omega) with hA | hA
 ·skip
  replace H := H.keep [1, 2] rfl
  refine seq_list fun K6 k6 => ?_
  refine ls 2 H <| sd ((does_loadBox agg_62 sz_62 rfl S (i := 0) rfl rfl)) <| sr 1 rfl <| sE ?_;clear H a;intro a H
  refine list_call H rfl rfl Try.func96 rfl rfl (ret_imp (ref_forward rates pwn ptn pag RA rcp l A cp _ (hr.now S) hrn (hl.now S) hn hok) (fun _ _ => fwdR_yes hA)) ?_;clear H a
  rintro _ _ a ⟨A', c', rfl, S2⟩ H
  replace S := S.call S2;clear S2
  refine ls 5 H <| sr 5 rfl <| sE ?_;clear H a;intro a H
  refine k6 _ _ ?_;clear k6 K6
  replace H := H.keep [9] rfl
  refine sS H fun K7 k7=>sr 1 rfl <| sd (does_max rfl rfl) <| sr 5 rfl <| sE ?_;clear H a;intro a H
  refine k7 _ ?_;clear k7 K7
  refine wp_ret ?_
  refine ret3 (fn := Try.f75) rfl H rfl rfl rfl ?_
  unfold refO; rw [if_neg (by omega), if_neg (by omega)]; exact ⟨rfl, (S.sel [] rfl rfl)⟩
 replace H := H.keep [1, 2] rfl
 refine seq_list fun K8 k8 => ?_
 refine ls 2 H <| sd ((does_loadBox agg_62 sz_62 rfl S (i := 0) rfl rfl)) <| sr 1 rfl <| sE ?_;clear H a;intro a H
 refine list_call H rfl rfl Try.func96 rfl rfl (ret_imp (ref_forward rates pwn ptn pag RA rcp l A cp _ (hr.now S) hrn (hl.now S) hn hok) (fun _ _ => fwdR_no hA)) ?_;clear H a
 rintro _ _ a ⟨rfl, S2⟩ H
 replace S := S.call S2;clear S2
 refine ls 5 H <| sr 5 rfl <| sE ?_;clear H a;intro a H
 refine k8 _ _ ?_;clear k8 K8
 replace H := H.keep [9] rfl
 refine sS H fun K9 k9=>sr 1 rfl <| sd (does_max rfl rfl) <| sr 5 rfl <| sE ?_;clear H a;intro a H
 refine k9 _ ?_;clear k9 K9
 refine wp_ret ?_
 refine ret3 (fn := Try.f75) rfl H rfl rfl rfl ?_
 unfold refO; rw [if_neg (by omega), if_pos hA]; refine ⟨?_, (S.sel [] rfl rfl)⟩
 have e1 : max 0 ((atN (⟨rates, pwn, ptn, pag⟩ : Part) l : Nat) : Int) = atN (⟨rates, pwn, ptn, pag⟩ : Part) l := by omega
 rw [e1]; rw [decide_eq_true (show (0 : Int) ≤ (atN (⟨rates, pwn, ptn, pag⟩ : Part) l : Int) by omega)]

theorem chain_Beyond_1 (a b : Int) (w : World) :
    Calls Try.prog 78 [.agg [.int .i64 a, .int .i64 b].toArray].toArray w (Ret (fun v w' => v = .int .i64 (Prod.snd (a, b)) ∧ St w noF [] w')) := by
 refine enter Try.func78 rfl Try.ntmps78 rfl (fun a H => ?_)
 have S := St.start w
 refine seq_list fun K1 k1 => ?_
 refine list_box H rfl S rfl rfl ?_;clear H a S;intro b1 _ a hb1 hbw1 S H
 refine ls 1 H <| sr 1 rfl <| sE ?_;clear H a;intro a H
 refine k1 _ _ ?_;clear k1 K1
 refine sS H fun K2 k2=>sf fo_68_1 rfl <| sl S 0 one_3 rfl rfl rfl <| sr 1 rfl <| sE ?_;clear H a;intro a H
 refine k2 _ ?_;clear k2 K2
 refine wp_ret ?_
 refine ret1 (fn := Try.f78) rfl H rfl ?_
 exact ⟨rfl, (S.sel [] rfl rfl)⟩

theorem does_gtr_t {P : Program} {w : World} {L : List (Nat × Value)} {ty : TypeId} {pos : String} {af : Array Edge} {dd : Option Nat} {g : Option (Nat × Bool)} {x y : Operand} {xt yt : TypeId} {m n : Int} (hx : ev L x = some (.int .i64 m)) (hy : ev L y = some (.int .i64 n)) (h : n < m) : Does P L ⟨dd, .binOp .gtr xt x y yt, ty, pos, af, g⟩ w (.bool true) := by
  have h1 := does_gtr (P := P) (d := dd) (w := w) (ty := ty) (pos := pos) (af := af) (g := g) (xt := xt) (yt := yt) hx hy
  rw [decide_eq_true h] at h1
  exact h1
theorem does_gtr_f {P : Program} {w : World} {L : List (Nat × Value)} {ty : TypeId} {pos : String} {af : Array Edge} {dd : Option Nat} {g : Option (Nat × Bool)} {x y : Operand} {xt yt : TypeId} {m n : Int} (hx : ev L x = some (.int .i64 m)) (hy : ev L y = some (.int .i64 n)) (h : ¬ n < m) : Does P L ⟨dd, .binOp .gtr xt x y yt, ty, pos, af, g⟩ w (.bool false) := by
  have h1 := does_gtr (P := P) (d := dd) (w := w) (ty := ty) (pos := pos) (af := af) (g := g) (xt := xt) (yt := yt) hx hy
  rw [decide_eq_false h] at h1
  exact h1


theorem chain_first (rates : List (Int × Int)) (pwn ptn pag : Int) (RA : Option Addr) (rcp : Nat) (l : List Use) (A : Option Addr) (cp : Nat) (f : Nat) (fn : Func) (e : Int × Int → Int) (w : World) (hr : InS w noF 2 RA rates.length (scell rates)) (hrn : rates.length ≤ 9223372036854775807) (hl : InS w noF 6 A l.length (ucell l)) (hn : l.length ≤ 9223372036854775807) (hf : Try.prog.funcs[f]? = some fn) (hfb : fn.body.isNone = false) (hfn : (fn.name == "runtime.NumGoroutine") = false) (hcall : ∀ (a b : Int) (w' : World), Calls Try.prog f [.agg [.int .i64 a, .int .i64 b].toArray].toArray w' (Ret fun v w'' => v = .int .i64 (e (a, b)) ∧ St w' noF [] w'')) :
    Calls Try.prog 77 [.agg [.slice RA rates.length rcp, .int .i64 pwn, .int .i64 ptn, .int .i64 pag].toArray, .slice A l.length cp, .func (.func f) [].toArray [].toArray].toArray w (Ret (fun v w' => v = .tuple #[.int .i64 (beyondO (⟨rates, pwn, ptn, pag⟩ : Part) l e).1, .int .i64 (beyondO (⟨rates, pwn, ptn, pag⟩ : Part) l e).2] ∧ St w noF [] w')) := by
 refine enter Try.func77 rfl Try.ntmps77 rfl (fun a H => ?_)
 have S := St.start w
 refine seq_list fun K1 k1 => ?_
 refine list_box H rfl S rfl rfl ?_;clear H a S;intro b3 _ a hb3 hbw3 S H
 refine ls 2 H <| sr 2 rfl <| sE ?_;clear H a;intro a H
 refine k1 _ _ ?_;clear k1 K1
 by_cases hA : wearE (⟨rates, pwn, ptn, pag⟩ : Part) l = 0
 ·skip
  have h0 := wearE_zero hA; have hok := checkP_ok h0.1
  have hh := hok.hdr; unfold partHdr at hh; simp only [decide_eq_true_eq] at hh; have hll := hok.len
  replace H := H.keep [1, 2, 3] rfl
  refine seq_list fun K2 k2 => ?_
  refine ls 2 H <| sd ((does_loadBox agg_62 sz_62 rfl S (i := 0) rfl rfl)) <| sr 1 rfl <| sE ?_;clear H a;intro a H
  refine list_call H rfl rfl Try.func97 rfl rfl (ret_imp (chain_Wear rates pwn ptn pag RA rcp l A cp _ (hr.now S) hrn (hl.now S) hn) (fun _ _ => wearR_yes hA)) ?_;clear H a
  rintro _ _ a ⟨A', c', rfl, S2⟩ H
  replace S := S.call S2;clear S2
  refine ls 5 H <| sr 5 rfl <| sE ?_;clear H a;intro a H
  refine k2 _ _ ?_;clear k2 K2
  refine wp_seq_k fun K3 k3 => ?_
  replace H := H.keep [1, 2, 3, 8, 9] rfl
  refine sS H fun K4 k4=>sr 2 rfl <| sE ?_;clear H a;intro a H
  refine k4 _ ?_;clear k4 K4
  refine condN H rfl (fun hc1 => ?_) (fun hc1 => ?_)
  ·skip
   all_goals first | (exfalso; omega) | (simp at hc1)
  refine wp_skip ?_
  refine k3 _ _ ?_
  refine sS H fun K5 k5=>sr 1 rfl <| sE ?_;clear H a;intro a H
  refine k5 _ ?_;clear k5 K5
  refine wp_seq_k fun K6 k6 => ?_
  refine sS H fun K7 k7=>sr 1 rfl <| sL sl_63 rfl <| sr 1 rfl <| sE ?_;clear H a;intro a H
  refine k7 _ ?_;clear k7 K7
  refine wp_block ?_
  refine loop_st (X := Nat) (R0 := _) [2, 3, 8, 22, 23] H rfl (fun k => [(10, .int .i64 (sumT l k)), (24, .int .i64 (k : Int))]) (fun k => []) (fun g k => k ≤ l.length ∧ g + k = l.length ∧ ∀ q, q < k → (fun k => wornB (⟨rates, pwn, ptn, pag⟩ : Part) l k (e (wearAt (⟨rates, pwn, ptn, pag⟩ : Part) l k))) q = false) (l.length) 0 ?_ (S.sel [0, 1] rfl rfl) (H.keep [10, 24, 2, 3, 8, 22, 23] rfl) ?_
  · exact ⟨by omega, by omega, fun q hq => absurd hq (Nat.not_lt_zero _)⟩
  clear H S a
  intro g1 x1 a w1 hp S H K8 k8
  obtain ⟨k, rfl⟩ : ∃ y, y = x1 := ⟨_, rfl⟩
  refine sS H fun K9 k9=>sr 1 rfl <| sE ?_;clear H a;intro a H
  refine k9 _ ?_;clear k9 K9
  refine wp_seq_k fun K10 k10 => ?_
  refine condL H rfl (fun hc2 => ?_) (fun hc2 => ?_)
  ·skip
   refine wp_skip ?_
   refine k10 _ _ ?_
   refine wp_seq_k fun K11 k11 => ?_
   refine wp_block ?_
   refine seq_list fun K12 k12 => ?_
   refine ls 3 H <| sr 1 rfl <| si sl_63 sz_72 rfl rfl (hl.adr (by omega)) (by omega) <| sd ((does_loadIn agg_72 sz_72 rfl S hl (by omega) (by omega))) <| sE ?_;clear H a;intro a H
   refine list_alloc H rfl S ze_72 ?_;clear H a S;intro b12 _ a hb12 hbw12 S H
   refine ls 1 H <| sr 1 rfl <| sE ?_;clear H a;intro a H
   refine list_store H S (i := 0) rfl rfl rfl rfl sz_72 rfl rfl ?_
   clear H a S;intro _ a S H
   refine k12 _ _ ?_;clear k12 K12
   have hsb := sumT_bd hok k (by omega)
   have hu := hok.use (k := k) (by omega); unfold useOk at hu; simp only [decide_eq_true_eq] at hu
   replace H := H.keep [2, 3, 8, 10, 11, 12, 22, 23, 24] rfl
   refine sS H fun K13 k13=>sr 1 rfl <| sf fo_72_1 rfl <| sl S 0 one_3 rfl rfl rfl <| sd (does_add rfl rfl (by unfold i64ok; omega)) <| sr 1 rfl <| sE ?_;clear H a;intro a H
   refine k13 _ ?_;clear k13 K13
   rcases (show ptn < sumT l (k + 1) ∨ (¬ ptn < sumT l (k + 1) ∧ pag < (l.getD k Use.zero).day) ∨ (¬ ptn < sumT l (k + 1) ∧ ¬ pag < (l.getD k Use.zero).day) from by omega) with hB | hB | hB
   ·skip
    replace H := H.keep [2, 3, 8, 10, 11, 12, 22, 23, 24] rfl
    replace S := S.drew
    refine seq_wq [(0, true), (1, true), (2, true), (3, true), (4, true), (5, true), (6, true), (7, true), (8, true), (9, true), (10, true), (11, true), (12, true), (13, true), (14, true), (15, true), (16, true), (17, true), (18, true), (19, true), (20, true), (21, true), (22, true)] (by kernel_rfl) (by kernel_rfl) (S.sel [0, 1, 2] rfl rfl) fun K14 k14 => ?_
    refine qF H <| qr 1 rfl <| qd rfl (fun _ S => (does_field fo_62_2 rfl)) <| qd rfl (fun _ S => does_load one_3 rfl (boxM.rd S (i := 2) rfl rfl)) <| qd rfl (fun _ S => does_gtr_t rfl rfl hB) <| qr 1 rfl <| qK ?_;clear H a;intro a H
    refine wq_no H rfl rfl rfl rfl rfl ?_;clear H a;intro a H
    refine wq_no H rfl rfl rfl rfl rfl ?_;clear H a;intro a H
    refine wq_no H rfl rfl rfl rfl rfl ?_;clear H a;intro a H
    refine wq_no H rfl rfl rfl rfl rfl ?_;clear H a;intro a H
    refine wq_no H rfl rfl rfl rfl rfl ?_;clear H a;intro a H
    refine qF H <| qd rfl (fun _ S => (does_pick rfl rfl rfl)) <| qr 1 rfl <| qK ?_;clear H a;intro a H
    refine wq_no H rfl rfl rfl rfl rfl ?_;clear H a;intro a H
    refine wq_no H rfl rfl rfl rfl rfl ?_;clear H a;intro a H
    refine wq_no H rfl rfl rfl rfl rfl ?_;clear H a;intro a H
    refine wq_no H rfl rfl rfl rfl rfl ?_;clear H a;intro a H
    refine wq_no H rfl rfl rfl rfl rfl ?_;clear H a;intro a H
    refine wq_no H rfl rfl rfl rfl rfl ?_;clear H a;intro a H
    refine wq_no H rfl rfl rfl rfl rfl ?_;clear H a;intro a H
    refine wq_no H rfl rfl rfl rfl rfl ?_;clear H a;intro a H
    refine wq_no H rfl rfl rfl rfl rfl ?_;clear H a;intro a H
    refine wq_no H rfl rfl rfl rfl rfl ?_;clear H a;intro a H
    refine qF H <| qd rfl (fun _ S => (does_pick rfl rfl rfl)) <| qK ?_;clear H a;intro a H
    refine wq_nil ?_
    refine k14 _ _ ?_
    clear k14 K14
    refine cond_ H rfl (fun hc3 => ?_) (fun hc3 => ?_)
    ·skip
     skip
     replace H := H.keep [11] rfl
     refine sS H fun K15 k15=>sr 3 rfl <| sE ?_;clear H a;intro a H
     refine k15 _ ?_;clear k15 K15
     refine wp_ret ?_
     refine ret2 (fn := Try.f77) rfl H rfl rfl ?_
     have e9 : firstO (fun k => wornB (⟨rates, pwn, ptn, pag⟩ : Part) l k (e (wearAt (⟨rates, pwn, ptn, pag⟩ : Part) l k))) l.length = k := firstO_at (by omega) (by show wornB _ _ _ _ = true; unfold wornB; rw [decide_eq_true hB]; simp) hp.2.2
     unfold beyondO; rw [if_neg (by omega), e9]; exact ⟨rfl, (S.sel [] rfl rfl)⟩
    skip
    cases hc3
   ·skip
    replace H := H.keep [2, 3, 8, 10, 11, 12, 22, 23, 24] rfl
    replace S := S.drew
    refine seq_wq [(0, true), (1, true), (2, true), (3, true), (4, true), (5, true), (6, true), (7, true), (8, true), (9, true), (10, true), (11, true), (12, true), (13, true), (14, true), (15, true), (16, true), (17, true), (18, true), (19, true), (20, true), (21, true), (22, true)] (by kernel_rfl) (by kernel_rfl) (S.sel [0, 1, 2] rfl rfl) fun K16 k16 => ?_
    refine qF H <| qr 1 rfl <| qd rfl (fun _ S => (does_field fo_62_2 rfl)) <| qd rfl (fun _ S => does_load one_3 rfl (boxM.rd S (i := 2) rfl rfl)) <| qd rfl (fun _ S => does_gtr_f rfl rfl hB.1) <| qr 1 rfl <| qK ?_;clear H a;intro a H
    refine wq_yes H rfl rfl rfl rfl (fun _ S => (does_field fo_72_0 rfl)) ?_;clear H a;intro a H
    refine wq_yes H rfl rfl rfl rfl (fun _ S => does_load one_3 rfl (boxM.rd S (i := 0) rfl rfl)) ?_;clear H a;intro a H
    refine wq_yes H rfl rfl rfl rfl (fun _ S => (does_field fo_62_3 rfl)) ?_;clear H a;intro a H
    refine wq_yes H rfl rfl rfl rfl (fun _ S => does_load one_3 rfl (boxM.rd S (i := 2) rfl rfl)) ?_;clear H a;intro a H
    refine wq_yes H rfl rfl rfl rfl (fun _ S => does_gtr_t rfl rfl hB.2) ?_;clear H a;intro a H
    refine qF H <| qd rfl (fun _ S => (does_or rfl rfl rfl)) <| qr 1 rfl <| qK ?_;clear H a;intro a H
    refine wq_no H rfl rfl rfl rfl rfl ?_;clear H a;intro a H
    refine wq_no H rfl rfl rfl rfl rfl ?_;clear H a;intro a H
    refine wq_no H rfl rfl rfl rfl rfl ?_;clear H a;intro a H
    refine wq_no H rfl rfl rfl rfl rfl ?_;clear H a;intro a H
    refine wq_no H rfl rfl rfl rfl rfl ?_;clear H a;intro a H
    refine wq_no H rfl rfl rfl rfl rfl ?_;clear H a;intro a H
    refine wq_no H rfl rfl rfl rfl rfl ?_;clear H a;intro a H
    refine wq_no H rfl rfl rfl rfl rfl ?_;clear H a;intro a H
    refine wq_no H rfl rfl rfl rfl rfl ?_;clear H a;intro a H
    refine wq_no H rfl rfl rfl rfl rfl ?_;clear H a;intro a H
    refine qF H <| qd rfl (fun _ S => (does_pick rfl rfl rfl)) <| qK ?_;clear H a;intro a H
    refine wq_nil ?_
    refine k16 _ _ ?_
    clear k16 K16
    refine cond_ H rfl (fun hc4 => ?_) (fun hc4 => ?_)
    ·skip
     skip
     replace H := H.keep [11] rfl
     refine sS H fun K17 k17=>sr 3 rfl <| sE ?_;clear H a;intro a H
     refine k17 _ ?_;clear k17 K17
     refine wp_ret ?_
     refine ret2 (fn := Try.f77) rfl H rfl rfl ?_
     have e9 : firstO (fun k => wornB (⟨rates, pwn, ptn, pag⟩ : Part) l k (e (wearAt (⟨rates, pwn, ptn, pag⟩ : Part) l k))) l.length = k := firstO_at (by omega) (by show wornB _ _ _ _ = true; unfold wornB; rw [decide_eq_true hB.2]; simp) hp.2.2
     unfold beyondO; rw [if_neg (by omega), e9]; exact ⟨rfl, (S.sel [] rfl rfl)⟩
    skip
    cases hc4
   replace H := H.keep [2, 3, 8, 10, 11, 12, 22, 23, 24] rfl
   replace S := S.drew
   refine seq_wq [(0, true), (1, true), (2, true), (3, true), (4, true), (5, true), (6, true), (7, true), (8, true), (9, true), (10, true), (11, true), (12, true), (13, true), (14, true), (15, true), (16, true), (18, true), (19, true), (20, true), (17, false), (21, true), (22, true)] (by kernel_rfl) (by kernel_rfl) (S.sel [0, 1, 2] rfl rfl) fun K18 k18 => ?_
   refine qF H <| qr 1 rfl <| qd rfl (fun _ S => (does_field fo_62_2 rfl)) <| qd rfl (fun _ S => does_load one_3 rfl (boxM.rd S (i := 2) rfl rfl)) <| qd rfl (fun _ S => does_gtr_f rfl rfl hB.1) <| qr 1 rfl <| qK ?_;clear H a;intro a H
   refine wq_yes H rfl rfl rfl rfl (fun _ S => (does_field fo_72_0 rfl)) ?_;clear H a;intro a H
   refine wq_yes H rfl rfl rfl rfl (fun _ S => does_load one_3 rfl (boxM.rd S (i := 0) rfl rfl)) ?_;clear H a;intro a H
   refine wq_yes H rfl rfl rfl rfl (fun _ S => (does_field fo_62_3 rfl)) ?_;clear H a;intro a H
   refine wq_yes H rfl rfl rfl rfl (fun _ S => does_load one_3 rfl (boxM.rd S (i := 2) rfl rfl)) ?_;clear H a;intro a H
   refine wq_yes H rfl rfl rfl rfl (fun _ S => does_gtr_f rfl rfl hB.2) ?_;clear H a;intro a H
   refine qF H <| qd rfl (fun _ S => (does_or rfl rfl rfl)) <| qr 1 rfl <| qK ?_;clear H a;intro a H
   refine wq_yes H rfl rfl rfl rfl (fun _ S => does_move rfl) ?_;clear H a;intro a H
   refine wq_yes H rfl rfl rfl rfl (fun _ S => does_move rfl) ?_;clear H a;intro a H
   refine wq_yes H rfl rfl rfl rfl (fun _ S => does_move rfl) ?_;clear H a;intro a H
   refine wq_yes H rfl rfl rfl rfl (fun _ S => does_indexN sl_58 sz_68 rfl rfl (ownM.adr S (i := 1) rfl (by omega)) (by omega)) ?_;clear H a;intro a H
   refine wq_yes H rfl rfl rfl rfl (fun _ S => (does_loadOwn agg_68 sz_68 rfl S (i := 1) rfl (by omega) (by omega))) ?_;clear H a;intro a H
   refine wq_yes H rfl rfl rfl rfl (fun _ S => (does_field fo_62_1 rfl)) ?_;clear H a;intro a H
   refine wq_yes H rfl rfl rfl rfl (fun _ S => does_load one_3 rfl (boxM.rd S (i := 2) rfl rfl)) ?_;clear H a;intro a H
   refine wq_yes H rfl rfl rfl rfl (fun _ S => does_mul rfl rfl (by unfold i64ok; omega)) ?_;clear H a;intro a H
   refine wq_eff rfl ?_
   refine list_yes H rfl rfl ?_
   refine list_callv (fs := []) (cs := []) (vs := [.agg [.int .i64 (wearAt (⟨rates, pwn, ptn, pag⟩ : Part) l k).1, .int .i64 (wearAt (⟨rates, pwn, ptn, pag⟩ : Part) l k).2].toArray]) H rfl rfl rfl (hf) (hfb) (hfn) (by exact hcall (wearAt (⟨rates, pwn, ptn, pag⟩ : Part) l k).1 (wearAt (⟨rates, pwn, ptn, pag⟩ : Part) l k).2 _) ?_; clear H a
   rintro _ _ a ⟨rfl, S2⟩ H
   replace S := S.call S2; clear S2
   refine wpList_nil (And.intro (S.sel [0, 1, 2] rfl rfl) ?_)
   refine wq_yes H rfl rfl rfl rfl (fun _ S => does_gtr rfl rfl) ?_;clear H a;intro a H
   refine qF H <| qd rfl (fun _ S => (does_or rfl rfl rfl)) <| qK ?_;clear H a;intro a H
   refine wq_nil ?_
   refine k18 _ _ ?_
   clear k18 K18
   refine cond_ H rfl (fun hc5 => ?_) (fun hc5 => ?_)
   ·skip
    skip
    replace H := H.keep [11] rfl
    refine sS H fun K19 k19=>sr 3 rfl <| sE ?_;clear H a;intro a H
    refine k19 _ ?_;clear k19 K19
    refine wp_ret ?_
    refine ret2 (fn := Try.f77) rfl H rfl rfl ?_
    have e9 : firstO (fun k => wornB (⟨rates, pwn, ptn, pag⟩ : Part) l k (e (wearAt (⟨rates, pwn, ptn, pag⟩ : Part) l k))) l.length = k := firstO_at (by omega) (by show wornB _ _ _ _ = true; unfold wornB; rw [decide_eq_false hB.1, decide_eq_false hB.2]; exact hc5) hp.2.2
    unfold beyondO; rw [if_neg (by omega), e9]; exact ⟨rfl, (S.sel [] rfl rfl)⟩
   skip
   refine wp_skip ?_
   refine k11 _ _ ?_
   refine sO H <| sd (does_add rfl rfl (by unfold i64ok; omega)) <| sr 1 rfl <| sE ?_;clear H a;intro a H
   exact k8 (g1 - 1) (k + 1) a _ (by omega) (⟨by omega, by omega, fun q hq => by
     by_cases h : q = k
     · subst h; show wornB _ _ _ _ = false; unfold wornB; rw [decide_eq_false hB.1, decide_eq_false hB.2]; exact hc5
     · exact hp.2.2 q (by omega)⟩) (S.sel [1, 2] rfl rfl) (H.keep [10, 24, 2, 3, 8, 22, 23] rfl)
  refine wp_exit ?_
  refine k6 _ _ ?_
  refine sS H fun K21 k21=>sr 2 rfl <| sE ?_;clear H a;intro a H
  refine k21 _ ?_;clear k21 K21
  refine wp_ret ?_
  refine ret2 (fn := Try.f77) rfl H rfl rfl ?_
  have hk9 : k = l.length := by omega
  subst hk9
  unfold beyondO; rw [if_neg (by omega), firstO_none hp.2.2]; exact ⟨rfl, (S.sel [] rfl rfl)⟩
 skip
 replace H := H.keep [1, 2, 3] rfl
 refine seq_list fun K22 k22 => ?_
 refine ls 2 H <| sd ((does_loadBox agg_62 sz_62 rfl S (i := 0) rfl rfl)) <| sr 1 rfl <| sE ?_;clear H a;intro a H
 refine list_call H rfl rfl Try.func97 rfl rfl (ret_imp (chain_Wear rates pwn ptn pag RA rcp l A cp _ (hr.now S) hrn (hl.now S) hn) (fun _ _ => wearR_no hA)) ?_;clear H a
 rintro _ _ a ⟨rfl, S2⟩ H
 replace S := S.call S2;clear S2
 refine ls 5 H <| sr 5 rfl <| sE ?_;clear H a;intro a H
 refine k22 _ _ ?_;clear k22 K22
 refine wp_seq_k fun K23 k23 => ?_
 replace H := H.keep [1, 2, 3, 8, 9] rfl
 refine sS H fun K24 k24=>sr 2 rfl <| sE ?_;clear H a;intro a H
 refine k24 _ ?_;clear k24 K24
 refine condN H rfl (fun hc6 => ?_) (fun hc6 => ?_)
 ·skip
  refine sS H fun K25 k25=>sr 3 rfl <| sE ?_;clear H a;intro a H
  refine k25 _ ?_;clear k25 K25
  refine wp_ret ?_
  refine ret2 (fn := Try.f77) rfl H rfl rfl ?_
  unfold beyondO; rw [if_pos hA]; exact ⟨rfl, (S.sel [] rfl rfl)⟩
 all_goals (exfalso; omega)

theorem chain_Beyond (rates : List (Int × Int)) (pwn ptn pag : Int) (RA : Option Addr) (rcp : Nat) (l : List Use) (A : Option Addr) (cp : Nat) (w : World) (hr : InS w noF 2 RA rates.length (scell rates)) (hrn : rates.length ≤ 9223372036854775807) (hl : InS w noF 6 A l.length (ucell l)) (hn : l.length ≤ 9223372036854775807) :
    Calls Try.prog 52 [.agg [.slice RA rates.length rcp, .int .i64 pwn, .int .i64 ptn, .int .i64 pag].toArray, .slice A l.length cp].toArray w (Ret (fun v w' => v = .tuple #[.int .i64 (beyondO (⟨rates, pwn, ptn, pag⟩ : Part) l Prod.snd).1, .int .i64 (beyondO (⟨rates, pwn, ptn, pag⟩ : Part) l Prod.snd).2] ∧ St w noF [] w')) := by
 refine enter Try.func52 rfl Try.ntmps52 rfl (fun a H => ?_)
 have S := St.start w
 refine seq_list fun K1 k1 => ?_
 refine list_box H rfl S rfl rfl ?_;clear H a S;intro b2 _ a hb2 hbw2 S H
 refine ls 2 H <| sr 2 rfl <| sE ?_;clear H a;intro a H
 refine k1 _ _ ?_;clear k1 K1
 replace H := H.keep [1, 2] rfl
 refine seq_list fun K2 k2 => ?_
 refine ls 2 H <| sd ((does_loadBox agg_62 sz_62 rfl S (i := 0) rfl rfl)) <| sr 1 rfl <| sE ?_;clear H a;intro a H
 refine list_call H rfl rfl Try.func77 rfl rfl (chain_first rates pwn ptn pag RA rcp l A cp 78 _ Prod.snd _ (hr.now S) hrn (hl.now S) hn Try.func78 rfl rfl (fun a b w' => chain_Beyond_1 a b w')) ?_;clear H a
 rintro _ _ a ⟨rfl, S2⟩ H
 replace S := S.call S2;clear S2
 refine ls 4 H <| sr 4 rfl <| sE ?_;clear H a;intro a H
 refine k2 _ _ ?_;clear k2 K2
 refine wp_ret ?_
 refine ret2 (fn := Try.f52) rfl H rfl rfl ?_
 exact ⟨rfl, (S.sel [] rfl rfl)⟩

end Go.Proofs.Ytopmadlgolnmfaa
