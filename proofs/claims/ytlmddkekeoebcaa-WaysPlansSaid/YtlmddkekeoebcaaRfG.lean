/- RfG. Printed by gen.py. -/
import Derived.Test.YtlmddkekeoebcaaRfD
import Derived.Test.YtlmddkekeoebcaaPln
import Derived.Test.YtlmddkekeoebcaaRwE
namespace Go.Proofs.Ytlmddkekeoebcaa
open Go.RowKit
set_option linter.unusedVariables false
set_option linter.unusedSimpArgs false
set_option maxRecDepth 100000
set_option maxHeartbeats 4000000


section
variable {P T : Nat} {ps : List Psg} {xs : List Int} {out : Int} {pe : List Int} {l : List Mv} {m : Mv} {k : Nat}
theorem mvOk_f1 (h : ¬ mvIn ps m) : mvOk ps xs out m = false := by unfold mvOk; rw [decide_eq_false h]; rfl
theorem mvOk_f2 (h : mvG ps out m < 0) : mvOk ps xs out m = false := by unfold mvOk; rw [decide_eq_false (p := 0 ≤ mvG ps out m) (by omega)]; simp
theorem mvOk_f3 (h : hasI xs m.fr = true) : mvOk ps xs out m = false := by unfold mvOk; rw [h]; simp
theorem plan_bad (hk : k < l.length) (h : mvOk ps xs out (l.getD k Mv.zero) = false) : planB ps xs out pe l P = false := by unfold planB; rw [allN_false hk (by unfold legB; rw [h]; rfl)]; rfl
theorem plan_tot (hk : k < l.length) (h : ¬ totK l (l.getD k Mv.zero) l.length ≤ (mvP ps (l.getD k Mv.zero)).wide) : planB ps xs out pe l P = false := by unfold planB; rw [allN_false hk (by unfold legB; rw [decide_eq_false h, Bool.and_false])]; rfl
theorem plan_thr {t p : Nat} (ht : t ≤ 60) (hp : p < P) (h : thr ps out pe l t p l.length < 0) : planB ps xs out pe l P = false := by
  unfold planB
  rw [allN_false (n := 61) (k := t) (by omega) (by unfold thrB; exact allN_false hp (decide_eq_false (by omega))), Bool.and_false]
theorem plan_yes (h1 : ∀ k, k < l.length → mvOk ps xs out (l.getD k Mv.zero) = true ∧ totK l (l.getD k Mv.zero) l.length ≤ (mvP ps (l.getD k Mv.zero)).wide) (h2 : ∀ t, t < 61 → thrB ps out pe l P t = true) : planB ps xs out pe l P = true := by
  unfold planB
  rw [Bool.and_eq_true]
  refine ⟨allN_iff.2 fun k hk => ?_, allN_iff.2 h2⟩
  unfold legB
  simpa using h1 k hk
theorem thrB_yes {t : Nat} (h : ∀ p, p < P → 0 ≤ thr ps out pe l t p l.length) : thrB ps out pe l P t = true := allN_iff.2 fun p hp => decide_eq_true (h p hp)
/-- All are of some people. -/
def goodM (l : List Mv) : Prop := ∀ q, q < l.length → 1 ≤ (l.getD q Mv.zero).many
theorem not_good {q : Nat} (h : ¬ goodM l) : planB ps xs out pe l P = false := by
  have h2 : ∃ q, q < l.length ∧ ¬ 1 ≤ (l.getD q Mv.zero).many := by
    refine Classical.byContradiction fun hno => h fun q hq => ?_
    refine Classical.byContradiction fun h3 => hno ⟨q, hq, h3⟩
  obtain ⟨q, hq, h3⟩ := h2
  exact plan_bad hq (mvOk_f1 fun h4 => h3 h4.2.2.1)
theorem tot_bd (h : goodM l) : ∀ {n : Nat}, n ≤ l.length → 0 ≤ totK l m n ∧ totK l m n ≤ 1000 * n := by
  intro n
  induction n with
  | zero => intro _; exact ⟨Int.le_refl 0, Int.le_refl 0⟩
  | succ n ih =>
    intro hn
    have h1 := ih (by omega)
    have h2 := h n (by omega)
    have h3 : totK l m (n + 1) = totK l m n + if sameK (l.getD n Mv.zero) m = true then min (l.getD n Mv.zero).many 1000 else 0 := rfl
    rw [h3]
    split <;> omega
theorem tot_yes {n : Nat} {z : Int} (hl : l.length ≤ 3000) (hn : n < l.length) (hz : goodM l → z = totK l m n) (hs : sameK (l.getD n Mv.zero) m = true) : goodM l → IntKind.i64.wrap (z + min (l.getD n Mv.zero).many 1000) = totK l m (n + 1) := fun h => by
  have h1 := tot_bd (m := m) h (n := n) (by omega)
  have h2 := h n hn
  have h3 : totK l m (n + 1) = totK l m n + if sameK (l.getD n Mv.zero) m = true then min (l.getD n Mv.zero).many 1000 else 0 := rfl
  rw [h3, if_pos hs, ← hz h]
  have h4 := hz h
  exact i64ok.eq ⟨by omega, by omega⟩
theorem tot_no {n : Nat} {z : Int} (hz : goodM l → z = totK l m n) (hs : sameK (l.getD n Mv.zero) m = false) : goodM l → z = totK l m (n + 1) := fun h => by
  have h3 : totK l m (n + 1) = totK l m n + if sameK (l.getD n Mv.zero) m = true then min (l.getD n Mv.zero).many 1000 else 0 := rfl
  rw [h3, if_neg (by rw [hs]; simp), hz h]
  omega
theorem sameK_t {m' : Mv} (h : (m.pas = m'.pas ∧ m.fr = m'.fr) ∧ m.at_ = m'.at_) : sameK m m' = true := by unfold sameK; rw [decide_eq_true h.1.1, decide_eq_true h.1.2, decide_eq_true h.2]; rfl
theorem sameK_f {m' : Mv} (h : (¬ m.pas = m'.pas ∨ ¬ m.fr = m'.fr) ∨ ¬ m.at_ = m'.at_) : sameK m m' = false := by
  unfold sameK
  rcases h with (h | h) | h
  · rw [decide_eq_false h]; rfl
  · rw [decide_eq_false h]; simp
  · rw [decide_eq_false h]; simp
theorem key3 (m m' : Mv) : (¬ m.pas = m'.pas) ∨ (m.pas = m'.pas ∧ ¬ m.fr = m'.fr) ∨ (m.pas = m'.pas ∧ m.fr = m'.fr) := by omega
theorem leg_bd {t : Int} {p : Nat} (h : 1 ≤ m.many ∧ m.many ≤ 1000) : -1000 ≤ legT ps out m t p ∧ legT ps out m t p ≤ 1000 := by unfold legT; split <;> split <;> omega
theorem thr_bd (h : ∀ k, k < l.length → mvOk ps xs out (l.getD k Mv.zero) = true) (hpe : PeOk pe) {t : Int} {p : Nat} : ∀ {n : Nat}, n ≤ l.length → -(1000 * (n : Int)) ≤ thr ps out pe l t p n ∧ thr ps out pe l t p n ≤ 1000 + 1000 * (n : Int) := by
  intro n
  induction n with
  | zero =>
    intro _
    have := getD_nn hpe p
    have h0 : thr ps out pe l t p 0 = pe.getD p 0 := Int.add_zero _
    omega
  | succ n ih =>
    intro hn
    have h1 := ih (by omega)
    have h2 := leg_bd (ps := ps) (out := out) (t := t) (p := p) (mvOk_iff.1 (h n (by omega))).1.2.2
    have h3 : thr ps out pe l t p (n + 1) = thr ps out pe l t p n + legT ps out (l.getD n Mv.zero) t p := (Int.add_assoc _ _ _).symm
    omega
/-- Those who go and those who come. -/
def depF (A : Nat → Int) (a f m t : Int) (p : Nat) : Int := A p - if a ≤ t ∧ f = (p : Int) then m else 0
theorem dep1 {A : Nat → Int} {a f m t v : Int} (h : a ≤ t) (hf : 0 ≤ f) (hv : v = A f.toNat - m) : ∀ k j, j < 1 → cput (lcl A) f.toNat 0 (.int .i64 v) k j = lcl (depF A a f m t) k j := by
  intro k j hj
  have : j = 0 := by omega
  subst this; subst hv
  unfold cput lcl depF
  by_cases e : k = f.toNat
  · subst e; rw [if_pos ⟨rfl, rfl⟩, if_pos ⟨h, by omega⟩]
  · rw [if_neg (fun h => e h.1), if_neg (fun h => e (by omega)), Int.sub_zero]
theorem dep0 {A : Nat → Int} {a f m t : Int} (h : ¬ a ≤ t) : ∀ k j, j < 1 → lcl A k j = lcl (depF A a f m t) k j := by
  intro k j hj
  unfold lcl depF
  rw [if_neg (fun h' => h h'.1), Int.sub_zero]
theorem arr1 {t : Int} {n : Nat} {v : Int} (h : (l.getD n Mv.zero).at_ + mvG ps out (l.getD n Mv.zero) ≤ t) (hf : 0 ≤ mvO ps (l.getD n Mv.zero))
    (hv : v = depF (fun p => thr ps out pe l t p n) (l.getD n Mv.zero).at_ (l.getD n Mv.zero).fr (l.getD n Mv.zero).many t (mvO ps (l.getD n Mv.zero)).toNat + (l.getD n Mv.zero).many) :
    ∀ k j, j < 1 → cput (lcl (depF (fun p => thr ps out pe l t p n) (l.getD n Mv.zero).at_ (l.getD n Mv.zero).fr (l.getD n Mv.zero).many t)) (mvO ps (l.getD n Mv.zero)).toNat 0 (.int .i64 v) k j = lcl (fun p => thr ps out pe l t p (n + 1)) k j := by
  intro k j hj
  have : j = 0 := by omega
  subst this; subst hv
  have h3 : thr ps out pe l t k (n + 1) = thr ps out pe l t k n + legT ps out (l.getD n Mv.zero) t k := (Int.add_assoc _ _ _).symm
  unfold cput lcl
  dsimp only
  rw [h3]
  unfold legT depF
  dsimp only
  by_cases e : k = (mvO ps (l.getD n Mv.zero)).toNat
  · subst e; rw [if_pos ⟨rfl, rfl⟩, if_pos (c := (l.getD n Mv.zero).at_ + mvG ps out (l.getD n Mv.zero) ≤ t ∧ _) ⟨h, by omega⟩]; congr 1; omega
  · rw [if_neg (fun h => e h.1), if_neg (c := (l.getD n Mv.zero).at_ + mvG ps out (l.getD n Mv.zero) ≤ t ∧ _) (fun h => e (by omega))]; congr 1; omega
theorem arr0 {t : Int} {n : Nat} (h : ¬ (l.getD n Mv.zero).at_ + mvG ps out (l.getD n Mv.zero) ≤ t) :
    ∀ k j, j < 1 → lcl (depF (fun p => thr ps out pe l t p n) (l.getD n Mv.zero).at_ (l.getD n Mv.zero).fr (l.getD n Mv.zero).many t) k j = lcl (fun p => thr ps out pe l t p (n + 1)) k j := by
  intro k j hj
  have h3 : thr ps out pe l t k (n + 1) = thr ps out pe l t k n + legT ps out (l.getD n Mv.zero) t k := (Int.add_assoc _ _ _).symm
  unfold lcl
  dsimp only
  rw [h3]
  unfold legT depF
  dsimp only
  rw [if_neg (c := (l.getD n Mv.zero).at_ + mvG ps out (l.getD n Mv.zero) ≤ t ∧ _) (fun h' => h h'.1)]
  congr 1
  omega
theorem dep_bd (h : ∀ k, k < l.length → mvOk ps xs out (l.getD k Mv.zero) = true) (hpe : PeOk pe) {t : Int} {p n : Nat} (hn : n < l.length) : -(1000 * (n : Int)) - 1000 ≤ depF (fun p => thr ps out pe l t p n) (l.getD n Mv.zero).at_ (l.getD n Mv.zero).fr (l.getD n Mv.zero).many t p ∧ depF (fun p => thr ps out pe l t p n) (l.getD n Mv.zero).at_ (l.getD n Mv.zero).fr (l.getD n Mv.zero).many t p ≤ 1000 + 1000 * (n : Int) := by
  have h1 := thr_bd h hpe (t := t) (p := p) (n := n) (by omega)
  have h2 := (mvOk_iff.1 (h n hn)).1.2.2
  unfold depF
  dsimp only
  split <;> omega
theorem exit_bd (hpe : PeOk pe) : ∀ n, 0 ≤ exitN xs pe n ∧ exitN xs pe n ≤ 1000 * n := by
  intro n
  induction n with
  | zero => exact ⟨Int.le_refl 0, Int.le_refl 0⟩
  | succ n ih =>
    have h1 := getD_nn hpe n
    have h2 : exitN xs pe (n + 1) = exitN xs pe n + if hasI xs n = true then pe.getD n 0 else 0 := rfl
    rw [h2]
    split <;> omega
theorem outA_bd (h : ∀ k, k < l.length → mvOk ps xs out (l.getD k Mv.zero) = true) : ∀ {n : Nat}, n ≤ l.length → 0 ≤ sm (fun k => outA ps xs out (l.getD k Mv.zero) T) n ∧ sm (fun k => outA ps xs out (l.getD k Mv.zero) T) n ≤ 1000 * n := by
  intro n
  induction n with
  | zero => intro _; exact ⟨Int.le_refl 0, Int.le_refl 0⟩
  | succ n ih =>
    intro hn
    have h1 := ih (by omega)
    have h2 := (mvOk_iff.1 (h n (by omega))).1.2.2
    have h3 : 0 ≤ outA ps xs out (l.getD n Mv.zero) T ∧ outA ps xs out (l.getD n Mv.zero) T ≤ 1000 := by unfold outA; split <;> omega
    show 0 ≤ sm (fun k => outA ps xs out (l.getD k Mv.zero) T) n + outA ps xs out (l.getD n Mv.zero) T ∧ sm (fun k => outA ps xs out (l.getD k Mv.zero) T) n + outA ps xs out (l.getD n Mv.zero) T ≤ _
    omega
end


theorem ref_Outside (pl : Int) (ps : List Psg) (PA : Option Addr) (pc : Nat) (xs : List Int) (XA : Option Addr) (xc : Nat) (out : Int) (pe : List Int) (BA : Option Addr) (bc : Nat) (T0 : Int) (l : List Mv) (MA : Option Addr) (mc : Nat) (w : World) (hps : InS w noF 7 PA ps.length (pcell ps)) (hpn : ps.length ≤ 9223372036854775807) (hxs : InS w noF 1 XA xs.length (icl xs)) (hxn : xs.length ≤ 9223372036854775807) (hpe : InS w noF 1 BA pe.length (icl pe)) (hpen : pe.length ≤ 9223372036854775807) (hml : InS w noF 4 MA l.length (mvcell l)) (hmn : l.length ≤ 9223372036854775807) :
    Calls Try.prog 33 [.agg [.int .i64 pl, .slice PA ps.length pc, .slice XA xs.length xc].toArray, .int .i64 out, .slice BA pe.length bc, .int .i64 T0, .slice MA l.length mc].toArray w (Ret (fun u w' => u = .tuple #[.int .i64 (outV pl ps xs out pe T0 l).1, .int .i64 (outV pl ps xs out pe T0 l).2] ∧ St w noF [] w')) := by
 refine enter Try.func33 rfl Try.ntmps33 rfl (fun a H => ?_)
 have S := St.start w
 refine seq_list fun K1 k1 => ?_
 refine list_box H rfl S rfl rfl ?_;clear H a S;intro b5 _ a hb5 hbw5 S H
 refine ls 2 H <| sr 2 rfl <| sE ?_;clear H a;intro a H
 refine k1 _ _ ?_;clear k1 K1
 refine seq_list fun K2 k2 => ?_
 refine ls 4 H <| sd ((does_loadBox agg_25 sz_25 rfl S (i := 0) rfl rfl)) <| sr 3 rfl <| sE ?_;clear H a;intro a H
 refine list_call H rfl rfl Try.func29 rfl rfl (ref_CheckLeave pl ps PA pc xs XA xc out pe BA bc T0 _ (hps.now S) hpn (hxs.now S) hxn (hpe.now S) hpen) ?_;clear H a
 rintro _ _ a ⟨rfl, S2⟩ H
 replace S := S.call S2;clear S2
 refine ls 1 H <| sr 1 rfl <| sE ?_;clear H a;intro a H
 refine k2 _ _ ?_;clear k2 K2
 refine wp_seq_k fun K3 k3 => ?_
 replace H := H.keep [1, 2, 3, 4, 5, 12] rfl
 refine sS H fun K4 k4=>sr 2 rfl <| sE ?_;clear H a;intro a H
 refine k4 _ ?_;clear k4 K4
 refine condN H rfl (fun hc1 => ?_) (fun hc1 => ?_)
 ·skip
  refine sS H fun K5 k5=>sr 3 rfl <| sE ?_;clear H a;intro a H
  refine k5 _ ?_;clear k5 K5
  refine wp_ret ?_
  refine ret2 (fn := Try.f33) rfl H rfl rfl ?_
  rw [outV_err hc1]
  exact ⟨rfl, (S.sel [] rfl rfl)⟩
 obtain ⟨hst, hou, hcr, hti⟩ := leaveE_ok hc1
 have hV0 := st_valid hst
 obtain ⟨P, rfl⟩ : ∃ P : Nat, pl = P := ⟨pl.toNat, by have := hV0.size; omega⟩
 have hV := hV0
 obtain ⟨hpp, hpl'⟩ := crowd_ok hcr
 have hpl : pe.length = P := by omega
 obtain ⟨T, rfl⟩ : ∃ T : Nat, T0 = T := ⟨T0.toNat, by omega⟩
 have hT : T ≤ 60 := by omega
 have hP10 := hV.size
 have hpk : PeOk pe := hpp
 refine wp_skip ?_
 refine k3 _ _ ?_
 refine wp_seq_k fun K6 k6 => ?_
 refine sS H fun K7 k7=>sr 1 rfl <| sL sl_49 rfl <| sr 1 rfl <| sE ?_;clear H a;intro a H
 refine k7 _ ?_;clear k7 K7
 refine condL H rfl (fun hc2 => ?_) (fun hc2 => ?_)
 ·skip
  replace H := H.keep [] rfl
  refine sS H fun K8 k8=>sr 2 rfl <| sE ?_;clear H a;intro a H
  refine k8 _ ?_;clear k8 K8
  refine wp_ret ?_
  refine ret2 (fn := Try.f33) rfl H rfl rfl ?_
  rw [outV_many hc1 (by omega)]
  exact ⟨rfl, (S.sel [] rfl rfl)⟩
 refine wp_skip ?_
 refine k6 _ _ ?_
 refine wp_seq_k fun K9 k9 => ?_
 refine sS H fun K10 k10=>sr 1 rfl <| sE ?_;clear H a;intro a H
 refine k10 _ ?_;clear k10 K10
 refine wp_block ?_
 refine loop_st (X := Nat) (R0 := _) [1, 2, 3, 4, 5] H rfl (fun i => [(13, .int .i64 (i : Int))]) (fun i => []) (fun g i => i ≤ l.length ∧ g + i = l.length ∧ ∀ q, q < i → mvOk ps xs out (l.getD q Mv.zero) = true ∧ (goodM l → totK l (l.getD q Mv.zero) l.length ≤ (mvP ps (l.getD q Mv.zero)).wide)) (l.length) 0 ?_ (S.sel [0] rfl rfl) (H.keep [13, 1, 2, 3, 4, 5] rfl) ?_
 · exact ⟨by omega, by omega, fun q hq => absurd hq (Nat.not_lt_zero q)⟩
 clear H S a
 intro g1 x1 a w1 hp S H K11 k11
 obtain ⟨i, rfl⟩ : ∃ y, y = x1 := ⟨_, rfl⟩
 obtain ⟨hil, hgi, hIH⟩ := hp
 refine wp_seq_k fun K12 k12 => ?_
 refine sS H fun K13 k13=>sr 2 rfl <| sL sl_49 rfl <| sr 1 rfl <| sE ?_;clear H a;intro a H
 refine k13 _ ?_;clear k13 K13
 refine condL H rfl (fun hc3 => ?_) (fun hc3 => ?_)
 ·skip
  refine wp_skip ?_
  refine k12 _ _ ?_
  refine wp_seq_k fun K14 k14 => ?_
  refine wp_block ?_
  replace H := H.keep [1, 2, 3, 4, 5, 13] rfl
  refine seq_list fun K15 k15 => ?_
  refine ls 4 H <| sr 2 rfl <| si sl_49 sz_76 rfl rfl (hml.adr (by omega)) (by omega) <| sd ((does_loadIn agg_76 sz_76 rfl S hml (by omega) (by omega))) <| sE ?_;clear H a;intro a H
  refine list_alloc H rfl S ze_76 ?_;clear H a S;intro b14 _ a hb14 hbw14 S H
  refine list_store H S (i := 0) rfl rfl rfl rfl sz_76 rfl rfl ?_
  clear H a S;intro _ a S H
  refine k15 _ _ ?_;clear k15 K15
  refine wp_seq_k fun K16 k16 => ?_
  replace H := H.keep [1, 2, 3, 4, 5, 13, 14] rfl
  refine sS H fun K17 k17=>sf fo_76_0 rfl <| sl S 0 one_3 rfl rfl rfl <| sf fo_25_1 rfl <| sl S 1 one_22 rfl rfl rfl <| sL sl_22 rfl <| sd (does_sub rfl rfl (by unfold i64ok; omega)) <| sc rfl Try.func56 rfl rfl (ref_from _ _ _ _) <| sr 2 rfl <| sg 4 8 56 60 false rfl rfl (fun hg9 => by
      have hq9 := hg9;try simp only [o1,o2,o3,o4,o5,o6,o7,o8,o9,oa] at hq9
      exact sy hg9 <| sf fo_76_2 rfl <| sy hg9 <| sl S 0 one_3 rfl rfl rfl <| sy hg9 <| sc rfl Try.func56 rfl rfl (ref_from _ _ _ _) <| sy hg9 <| sr 1 rfl <| sz 4 rfl rfl rfl) <| so rfl rfl rfl <| sr 1 rfl <| sg 4 14 62 66 false rfl rfl (fun hg15 => by
      have hq15 := hg15;try simp only [o1,o2,o3,o4,o5,o6,o7,o8,o9,oa] at hq15
      exact sy hg15 <| sf fo_76_3 rfl <| sy hg15 <| sl S 0 one_3 rfl rfl rfl <| sy hg15 <| sc rfl Try.func56 rfl rfl (ref_from _ _ _ _) <| sy hg15 <| sr 1 rfl <| sz 4 rfl rfl rfl) <| so rfl rfl rfl <| sE ?_;clear H a;intro a H
  refine k17 _ ?_;clear k17 K17
  refine cond_ H rfl (fun hc4 => ?_) (fun hc4 => ?_)
  ·skip
   try simp only [o1,o2,o3,o4,o5,o6,o7,o8,o9,oa] at hc4
   replace H := H.keep [] rfl
   refine sS H fun K18 k18=>sr 2 rfl <| sE ?_;clear H a;intro a H
   refine k18 _ ?_;clear k18 K18
   refine wp_ret ?_
   refine ret2 (fn := Try.f33) rfl H rfl rfl ?_
   rw [outV_bad hc1 (by omega) (plan_bad (k := i) (by omega) (mvOk_f1 fun h => by obtain ⟨h1, h2, h3⟩ := h; omega))]
   exact ⟨rfl, (S.sel [] rfl rfl)⟩
  try simp only [o1,o2,o3,o4,o5,o6,o7,o8,o9,oa] at hc4
  have hpas : 0 ≤ (l.getD i Mv.zero).pas ∧ (l.getD i Mv.zero).pas < ps.length := by omega
  have hin : mvIn ps (l.getD i Mv.zero) := ⟨hpas, by omega, by omega⟩
  refine wp_skip ?_
  refine k16 _ _ ?_
  replace H := H.keep [1, 2, 3, 4, 5, 13, 14] rfl
  refine seq_list fun K19 k19 => ?_
  refine ls 6 H <| sf fo_25_1 rfl <| sl S 1 one_22 rfl rfl rfl <| sf fo_76_0 rfl <| sl S 0 one_3 rfl rfl rfl <| sI sl_22 sz_45 rfl rfl (hps.adr (by omega)) (by omega) (by omega) <| sd ((does_loadIn agg_45 sz_45 rfl S hps (by omega) (by omega))) <| sE ?_;clear H a;intro a H
  refine list_alloc H rfl S ze_45 ?_;clear H a S;intro b15 _ a hb15 hbw15 S H
  refine list_store H S (i := 0) rfl rfl rfl rfl sz_45 rfl rfl ?_
  clear H a S;intro _ a S H
  refine k19 _ _ ?_;clear k19 K19
  refine wp_seq_k fun K20 k20 => ?_
  replace H := H.keep [1, 2, 3, 4, 5, 13, 14, 15] rfl
  refine seq_list fun K21 k21 => ?_
  refine ls 4 H <| sd ((does_loadBox agg_45 sz_45 rfl S (i := 0) rfl rfl)) <| sr 1 rfl <| sf fo_76_1 rfl <| sl S 1 one_3 rfl rfl rfl <| sE ?_;clear H a;intro a H
  refine list_call H rfl rfl Try.func70 rfl rfl (ref_Gone (mvP ps (l.getD i Mv.zero)) out (l.getD i Mv.zero).fr _ (fun h3 => by have := psgOk_iff.1 (hV.pas (l.getD i Mv.zero).pas.toNat (by omega)); unfold mvP at h3 ⊢; omega)) ?_;clear H a
  rintro _ _ a ⟨rfl, S2⟩ H
  replace S := S.call S2;clear S2
  rw [show goneI out (mvP ps (l.getD i Mv.zero)) (l.getD i Mv.zero).fr = mvG ps out (l.getD i Mv.zero) from rfl] at H
  refine ls 2 H <| sr 2 rfl <| sE ?_;clear H a;intro a H
  apply list_guard (i := 6) (g := 80) (t := 85) (b := false) 5 H S rfl rfl (by kernel_rfl) (by kernel_rfl) rfl rfl
  case h1 =>
   intro hg7
   have hq7 := hg7; try simp only [o1,o2,o3,o4,o5,o6,o7,o8,o9,oa] at hq7
   refine ls 4 H <| sy hg7 <| sf fo_25_2 rfl <| sy hg7 <| sl S 2 one_23 rfl rfl rfl <| sy hg7 <| sf fo_76_1 rfl <| sy hg7 <| sl S 1 one_3 rfl rfl rfl <| sE ?_;intro a H
   refine list_yes' H rfl rfl (by assumption) ?_
   refine list_call H rfl rfl Try.func57 rfl rfl (ref_has xs XA xc _ _ (hxs.now S) hxn) ?_
   rintro _ _ a ⟨rfl, S2⟩ H
   replace S := S.call S2;clear S2
   exact wpList_nil ⟨H.strip 5 rfl rfl, (S.sel [0, 1, 2] rfl rfl)⟩
  clear H a S;intro a _ H S
  refine ls 1 H <| so rfl rfl rfl <| sE ?_;clear H a;intro a H
  refine k21 _ _ ?_;clear k21 K21
  refine cond_ H rfl (fun hc5 => ?_) (fun hc5 => ?_)
  ·skip
   try simp only [o1,o2,o3,o4,o5,o6,o7,o8,o9,oa] at hc5
   replace H := H.keep [] rfl
   refine sS H fun K22 k22=>sr 2 rfl <| sE ?_;clear H a;intro a H
   refine k22 _ ?_;clear k22 K22
   refine wp_ret ?_
   refine ret2 (fn := Try.f33) rfl H rfl rfl ?_
   rw [outV_bad hc1 (by omega) (plan_bad (k := i) (by omega) (by rcases hc5 with h | h; exact mvOk_f2 h; exact mvOk_f3 h))]
   exact ⟨rfl, (S.sel [] rfl rfl)⟩
  try simp only [o1,o2,o3,o4,o5,o6,o7,o8,o9,oa] at hc5
  have hmo : mvOk ps xs out (l.getD i Mv.zero) = true := mvOk_iff.2 ⟨hin, by omega, hc5.2⟩
  refine wp_skip ?_
  refine k20 _ _ ?_
  refine sS H fun K23 k23=>sr 1 rfl <| sE ?_;clear H a;intro a H
  refine k23 _ ?_;clear k23 K23
  refine wp_seq_k fun K24 k24 => ?_
  refine sS H fun K25 k25=>sr 1 rfl <| sE ?_;clear H a;intro a H
  refine k25 _ ?_;clear k25 K25
  refine wp_block ?_
  refine loop_st (X := Nat × Int) (R0 := _) [1, 2, 3, 4, 5, 13, 14, 15] H rfl (fun ⟨k, z⟩ => [(16, .int .i64 z), (17, .int .i64 (k : Int))]) (fun ⟨k, z⟩ => []) (fun g ⟨k, z⟩ => k ≤ l.length ∧ g + k = l.length ∧ (goodM l → z = totK l (l.getD i Mv.zero) k)) (l.length) (0, 0) ?_ (S.sel [0, 1, 2] rfl rfl) (H.keep [16, 17, 1, 2, 3, 4, 5, 13, 14, 15] rfl) ?_
  · exact ⟨by omega, by omega, fun _ => rfl⟩
  clear H S a
  intro g2 x2 a w2 hp S H K26 k26
  obtain ⟨k, z⟩ := x2
  dsimp only at hp S H
  obtain ⟨hkl, hgk, hz⟩ := hp
  refine wp_seq_k fun K27 k27 => ?_
  refine sS H fun K28 k28=>sr 2 rfl <| sL sl_49 rfl <| sr 1 rfl <| sE ?_;clear H a;intro a H
  refine k28 _ ?_;clear k28 K28
  refine condL H rfl (fun hc6 => ?_) (fun hc6 => ?_)
  ·skip
   refine wp_skip ?_
   refine k27 _ _ ?_
   refine wp_seq_k fun K29 k29 => ?_
   refine wp_block ?_
   rcases key3 (l.getD k Mv.zero) (l.getD i Mv.zero) with hB | hB | hB
   ·skip
    skip
    replace H := H.keep [1, 2, 3, 4, 5, 13, 14, 15, 16, 17] rfl
    replace S := S.drew
    refine sD H fun K30 k30=>sr 2 rfl <| si sl_49 sz_76 rfl rfl (hml.adr (by omega)) (by omega) <| sp fo_76_0 rfl <| slm one_3 rfl (hml.rd S (by omega) (by omega)) <| sf fo_76_0 rfl <| sl S 1 one_3 rfl rfl rfl <| sd (does_eq_f rfl rfl hB) <| sr 1 rfl <| sg 8 8 101 109 true rfl rfl (fun hg9 => by
        have hq9 := hg9;try simp only [o1,o2,o3,o4,o5,o6,o7,o8,o9,oa] at hq9
        exact sy hg9 <| sr 1 rfl <| sy hg9 <| sr 1 rfl <| sy hg9 <| si sl_49 sz_76 rfl rfl (hml.adr (by omega)) (by omega) <| sy hg9 <| sp fo_76_1 rfl <| sy hg9 <| slm one_3 rfl (hml.rd S (by omega) (by omega)) <| sy hg9 <| sf fo_76_1 rfl <| sy hg9 <| sl S 1 one_3 rfl rfl rfl <| sy hg9 <| sr 1 rfl <| sz 8 rfl rfl rfl) <| sa rfl rfl rfl <| sr 1 rfl <| sg 8 18 111 119 true rfl rfl (fun hg19 => by
        have hq19 := hg19;try simp only [o1,o2,o3,o4,o5,o6,o7,o8,o9,oa] at hq19
        exact sy hg19 <| sr 1 rfl <| sy hg19 <| sr 1 rfl <| sy hg19 <| si sl_49 sz_76 rfl rfl (hml.adr (by omega)) (by omega) <| sy hg19 <| sp fo_76_2 rfl <| sy hg19 <| slm one_3 rfl (hml.rd S (by omega) (by omega)) <| sy hg19 <| sf fo_76_2 rfl <| sy hg19 <| sl S 1 one_3 rfl rfl rfl <| sy hg19 <| sr 1 rfl <| sz 8 rfl rfl rfl) <| sa rfl rfl rfl <| sE ?_;clear H a;intro a H
    refine k30 _ ?_;clear k30 K30
    refine cond_ H rfl (fun hc7 => ?_) (fun hc7 => ?_)
    ·skip
     skip
     cases hc7
    skip
    have hsk := sameK_f (.inl (.inl hB))
    refine wp_skip ?_
    refine k29 _ _ ?_
    replace H := H.keep [1, 2, 3, 4, 5, 13, 14, 15, 16, 17] rfl
    refine sO H <| sr 1 rfl <| sd (does_add rfl rfl (by unfold i64ok; omega)) <| sr 1 rfl <| sE ?_;clear H a;intro a H
    exact k26 (g2 - 1) (k + 1, _) a _ (by omega) (⟨by omega, by omega, by first | exact tot_yes (by omega) (by omega) hz hsk | exact tot_no hz hsk⟩) (S.sel [0, 1, 2] rfl rfl) (H.keep [16, 17, 1, 2, 3, 4, 5, 13, 14, 15] rfl)
   ·skip
    skip
    replace H := H.keep [1, 2, 3, 4, 5, 13, 14, 15, 16, 17] rfl
    replace S := S.drew
    refine sD H fun K32 k32=>sr 2 rfl <| si sl_49 sz_76 rfl rfl (hml.adr (by omega)) (by omega) <| sp fo_76_0 rfl <| slm one_3 rfl (hml.rd S (by omega) (by omega)) <| sf fo_76_0 rfl <| sl S 1 one_3 rfl rfl rfl <| sd (does_eq_t rfl rfl hB.1) <| sr 1 rfl <| sg 8 8 101 109 true rfl rfl (fun hg9 => by
        have hq9 := hg9;try simp only [o1,o2,o3,o4,o5,o6,o7,o8,o9,oa] at hq9
        exact sy hg9 <| sr 1 rfl <| sy hg9 <| sr 1 rfl <| sy hg9 <| si sl_49 sz_76 rfl rfl (hml.adr (by omega)) (by omega) <| sy hg9 <| sp fo_76_1 rfl <| sy hg9 <| slm one_3 rfl (hml.rd S (by omega) (by omega)) <| sy hg9 <| sf fo_76_1 rfl <| sy hg9 <| sl S 1 one_3 rfl rfl rfl <| sy hg9 <| sd (does_eq_f rfl rfl hB.2) <| sz 8 rfl rfl rfl) <| sa rfl rfl rfl <| sr 1 rfl <| sg 8 18 111 119 true rfl rfl (fun hg19 => by
        have hq19 := hg19;try simp only [o1,o2,o3,o4,o5,o6,o7,o8,o9,oa] at hq19
        exact sy hg19 <| sr 1 rfl <| sy hg19 <| sr 1 rfl <| sy hg19 <| si sl_49 sz_76 rfl rfl (hml.adr (by omega)) (by omega) <| sy hg19 <| sp fo_76_2 rfl <| sy hg19 <| slm one_3 rfl (hml.rd S (by omega) (by omega)) <| sy hg19 <| sf fo_76_2 rfl <| sy hg19 <| sl S 1 one_3 rfl rfl rfl <| sy hg19 <| sr 1 rfl <| sz 8 rfl rfl rfl) <| sa rfl rfl rfl <| sE ?_;clear H a;intro a H
    refine k32 _ ?_;clear k32 K32
    refine cond_ H rfl (fun hc8 => ?_) (fun hc8 => ?_)
    ·skip
     skip
     cases hc8
    skip
    have hsk := sameK_f (.inl (.inr hB.2))
    refine wp_skip ?_
    refine k29 _ _ ?_
    replace H := H.keep [1, 2, 3, 4, 5, 13, 14, 15, 16, 17] rfl
    refine sO H <| sr 1 rfl <| sd (does_add rfl rfl (by unfold i64ok; omega)) <| sr 1 rfl <| sE ?_;clear H a;intro a H
    exact k26 (g2 - 1) (k + 1, _) a _ (by omega) (⟨by omega, by omega, by first | exact tot_yes (by omega) (by omega) hz hsk | exact tot_no hz hsk⟩) (S.sel [0, 1, 2] rfl rfl) (H.keep [16, 17, 1, 2, 3, 4, 5, 13, 14, 15] rfl)
   skip
   replace H := H.keep [1, 2, 3, 4, 5, 13, 14, 15, 16, 17] rfl
   replace S := S.drew
   refine sD H fun K34 k34=>sr 2 rfl <| si sl_49 sz_76 rfl rfl (hml.adr (by omega)) (by omega) <| sp fo_76_0 rfl <| slm one_3 rfl (hml.rd S (by omega) (by omega)) <| sf fo_76_0 rfl <| sl S 1 one_3 rfl rfl rfl <| sd (does_eq_t rfl rfl hB.1) <| sr 1 rfl <| sg 8 8 101 109 true rfl rfl (fun hg9 => by
       have hq9 := hg9;try simp only [o1,o2,o3,o4,o5,o6,o7,o8,o9,oa] at hq9
       exact sy hg9 <| sr 1 rfl <| sy hg9 <| sr 1 rfl <| sy hg9 <| si sl_49 sz_76 rfl rfl (hml.adr (by omega)) (by omega) <| sy hg9 <| sp fo_76_1 rfl <| sy hg9 <| slm one_3 rfl (hml.rd S (by omega) (by omega)) <| sy hg9 <| sf fo_76_1 rfl <| sy hg9 <| sl S 1 one_3 rfl rfl rfl <| sy hg9 <| sd (does_eq_t rfl rfl hB.2) <| sz 8 rfl rfl rfl) <| sa rfl rfl rfl <| sr 1 rfl <| sg 8 18 111 119 true rfl rfl (fun hg19 => by
       have hq19 := hg19;try simp only [o1,o2,o3,o4,o5,o6,o7,o8,o9,oa] at hq19
       exact sy hg19 <| sr 1 rfl <| sy hg19 <| sr 1 rfl <| sy hg19 <| si sl_49 sz_76 rfl rfl (hml.adr (by omega)) (by omega) <| sy hg19 <| sp fo_76_2 rfl <| sy hg19 <| slm one_3 rfl (hml.rd S (by omega) (by omega)) <| sy hg19 <| sf fo_76_2 rfl <| sy hg19 <| sl S 1 one_3 rfl rfl rfl <| sy hg19 <| sr 1 rfl <| sz 8 rfl rfl rfl) <| sa rfl rfl rfl <| sE ?_;clear H a;intro a H
   refine k34 _ ?_;clear k34 K34
   refine cond_ H rfl (fun hc9 => ?_) (fun hc9 => ?_)
   ·skip
    simp only [Bool.true_and, o1,o2,o3,o4,o5,o6,o7,o8,o9,oa] at hc9
    have hsk := sameK_t (m := (l.getD k Mv.zero)) (m' := (l.getD i Mv.zero)) ⟨hB, by omega⟩
    replace H := H.keep [1, 2, 3, 4, 5, 13, 14, 15, 16, 17] rfl
    refine sO H <| sr 3 rfl <| si sl_49 sz_76 rfl rfl (hml.adr (by omega)) (by omega) <| sp fo_76_3 rfl <| slm one_3 rfl (hml.rd S (by omega) (by omega)) <| sd (does_min rfl rfl) <| sd (does_addW rfl rfl) <| sr 1 rfl <| sE ?_;clear H a;intro a H
    refine k29 _ _ ?_
    replace H := H.keep [1, 2, 3, 4, 5, 13, 14, 15, 16, 17] rfl
    refine sO H <| sr 1 rfl <| sd (does_add rfl rfl (by unfold i64ok; omega)) <| sr 1 rfl <| sE ?_;clear H a;intro a H
    exact k26 (g2 - 1) (k + 1, _) a _ (by omega) (⟨by omega, by omega, by first | exact tot_yes (by omega) (by omega) hz hsk | exact tot_no hz hsk⟩) (S.sel [0, 1, 2] rfl rfl) (H.keep [16, 17, 1, 2, 3, 4, 5, 13, 14, 15] rfl)
   simp only [Bool.true_and, o1,o2,o3,o4,o5,o6,o7,o8,o9,oa] at hc9
   have hsk := sameK_f (m := (l.getD k Mv.zero)) (m' := (l.getD i Mv.zero)) (.inr (by omega))
   refine wp_skip ?_
   refine k29 _ _ ?_
   refine sO H <| sr 1 rfl <| sd (does_add rfl rfl (by unfold i64ok; omega)) <| sr 1 rfl <| sE ?_;clear H a;intro a H
   exact k26 (g2 - 1) (k + 1, _) a _ (by omega) (⟨by omega, by omega, by first | exact tot_yes (by omega) (by omega) hz hsk | exact tot_no hz hsk⟩) (S.sel [0, 1, 2] rfl rfl) (H.keep [16, 17, 1, 2, 3, 4, 5, 13, 14, 15] rfl)
  refine wp_exit ?_
  refine k24 _ _ ?_
  replace H := H.keep [1, 2, 3, 4, 5, 13, 15, 16] rfl
  refine sS H fun K38 k38=>sr 1 rfl <| sf fo_45_4 rfl <| sl S 0 one_3 rfl rfl rfl <| sr 1 rfl <| sE ?_;clear H a;intro a H
  refine k38 _ ?_;clear k38 K38
  refine condL H rfl (fun hc10 => ?_) (fun hc10 => ?_)
  ·skip
   refine sS H fun K39 k39=>sr 2 rfl <| sE ?_;clear H a;intro a H
   refine k39 _ ?_;clear k39 K39
   refine wp_ret ?_
   refine ret2 (fn := Try.f33) rfl H rfl rfl ?_
   obtain rfl : k = l.length := by omega
   have hbad : planB ps xs out pe l P = false := by
     by_cases hg : goodM l
     · refine plan_tot (k := i) (by omega) ?_
       have h7 := hz hg
       rw [← h7]
       have h8 : (mvP ps (l.getD i Mv.zero)).wide < z := hc10
       omega
     · exact not_good (q := 0) hg
   rw [outV_bad hc1 (by omega) hbad]
   exact ⟨rfl, (S.sel [] rfl rfl)⟩
  obtain rfl : k = l.length := by omega
  have hwd : z ≤ (mvP ps (l.getD i Mv.zero)).wide := hc10
  refine wp_skip ?_
  refine k14 _ _ ?_
  refine sO H <| sr 1 rfl <| sd (does_add rfl rfl (by unfold i64ok; omega)) <| sr 1 rfl <| sE ?_;clear H a;intro a H
  exact k11 (g1 - 1) (i + 1) a _ (by omega) (⟨by omega, by omega, fun q hq => by
    by_cases e : q = i
    · subst e; exact ⟨hmo, fun h => by rw [← hz h]; (first | exact hwd | omega)⟩
    · exact hIH q (by omega)⟩) (S.sel [2] rfl rfl) (H.keep [13, 1, 2, 3, 4, 5] rfl)
 refine wp_exit ?_
 refine k9 _ _ ?_
 refine wp_seq_k fun K41 k41 => ?_
 replace H := H.keep [1, 2, 3, 4, 5] rfl
 refine sS H fun K42 k42=>sr 1 rfl <| sE ?_;clear H a;intro a H
 refine k42 _ ?_;clear k42 K42
 refine wp_block ?_
 have hall : ∀ k, k < l.length → mvOk ps xs out (l.getD k Mv.zero) = true := fun k hk => (hIH k (by omega)).1
 refine loop_st (X := Nat) (R0 := _) [1, 2, 3, 4, 5] H rfl (fun t => [(18, .int .i64 (t : Int))]) (fun t => []) (fun g t => t ≤ 61 ∧ g + t = 61 ∧ ∀ q, q < t → thrB ps out pe l P q = true) (61) 0 ?_ (S.sel [0] rfl rfl) (H.keep [18, 1, 2, 3, 4, 5] rfl) ?_
 · exact ⟨by omega, by omega, fun q hq => absurd hq (Nat.not_lt_zero q)⟩
 clear H S a
 intro g3 x3 a w3 hp S H K43 k43
 obtain ⟨t, rfl⟩ : ∃ y, y = x3 := ⟨_, rfl⟩
 obtain ⟨ht61, hgt, hthr⟩ := hp
 refine wp_seq_k fun K44 k44 => ?_
 refine sS H fun K45 k45=>sr 2 rfl <| sE ?_;clear H a;intro a H
 refine k45 _ ?_;clear k45 K45
 refine condG H rfl (fun hc11 => ?_) (fun hc11 => ?_)
 ·skip
  refine wp_skip ?_
  refine k44 _ _ ?_
  refine wp_seq_k fun K46 k46 => ?_
  refine wp_block ?_
  refine seq_list fun K47 k47 => ?_
  refine list_build0 H rfl S sl_23 sz_3 (icl pe) ?_;clear H a S;intro A1 _ a S H
  refine ls 1 H <| sr 1 rfl <| sE ?_;clear H a;intro a H
  refine list_append H rfl S sl_23 sz_3 ze_3 by_3 rfl rfl (i := 0) rfl rfl rfl ((hpe.now S)) (fun _ _ _ _ => rfl) (by omega) (by omega) ?_;clear H a S;intro A2 c2 _ a S H
  rw [Nat.zero_add] at H
  replace S := S.recell (i := 0) (n := pe.length) (cell' := lcl (fun p => thr ps out pe l t p 0)) (by simp only [Nat.zero_add]; rfl) (fun k j hk hj => by unfold capp lcl icl; rw [if_neg (by omega)]; exact congrArg (Value.int .i64) (Int.add_zero _).symm)
  obtain ⟨Ath, rfl⟩ : ∃ y, y = A2 := ⟨_, rfl⟩
  obtain ⟨cth, rfl⟩ : ∃ y, y = c2 := ⟨_, rfl⟩
  refine ls 1 H <| sr 1 rfl <| sE ?_;clear H a;intro a H
  refine k47 _ _ ?_;clear k47 K47
  refine wp_seq_k fun K48 k48 => ?_
  refine sS H fun K49 k49=>sr 1 rfl <| sE ?_;clear H a;intro a H
  refine k49 _ ?_;clear k49 K49
  refine wp_block ?_
  refine loop_st (X := Nat) (R0 := _) [1, 2, 3, 4, 5, 18, 19] H rfl (fun i => [(20, .int .i64 (i : Int))]) (fun i => [ownM 3 1 Ath pe.length cth (lcl (fun p => thr ps out pe l t p i))]) (fun g i => i ≤ l.length ∧ g + i = l.length) (l.length) 0 ?_ (S.sel [0, 1] rfl rfl) (H.keep [20, 1, 2, 3, 4, 5, 18, 19] rfl) ?_
  · exact ⟨by omega, by omega⟩
  clear H S a
  intro g4 x4 a w4 hp S H K50 k50
  obtain ⟨i, rfl⟩ : ∃ y, y = x4 := ⟨_, rfl⟩
  refine wp_seq_k fun K51 k51 => ?_
  refine sS H fun K52 k52=>sr 2 rfl <| sL sl_49 rfl <| sr 1 rfl <| sE ?_;clear H a;intro a H
  refine k52 _ ?_;clear k52 K52
  refine condL H rfl (fun hc12 => ?_) (fun hc12 => ?_)
  ·skip
   refine wp_skip ?_
   refine k51 _ _ ?_
   refine wp_seq_k fun K53 k53 => ?_
   refine wp_block ?_
   have hmo := hall i (by omega)
   obtain ⟨⟨hpas, hat, hmany⟩, hgn, hxf⟩ := mvOk_iff.1 hmo
   obtain ⟨pi, pe_, hF⟩ := mv_facts hV hpas hgn
   have hg1 := hF.g
   have hfrP := hF.frP
   have htoP := hF.toP
   replace H := H.keep [1, 2, 3, 4, 5, 18, 19, 20] rfl
   replace S := S.drew
   refine seq_wq [(0, true), (1, true), (2, true), (3, true), (4, true), (5, true), (6, true), (7, true), (8, true), (9, false), (10, false)] (by kernel_rfl) (by kernel_rfl) (S.sel [0, 1] rfl rfl) fun K54 k54 => ?_
   refine qF H <| qd rfl (fun _ S => (does_field fo_25_1 rfl)) <| qd rfl (fun _ S => does_load one_22 rfl (boxM.rd S (i := 1) rfl rfl)) <| qr 2 rfl <| qd rfl (fun _ S => does_indexN sl_49 sz_76 rfl rfl (hml.adr (by omega)) (by omega)) <| qd rfl (fun _ S => (does_field_pt fo_76_0 rfl)) <| qd rfl (fun _ S => does_load one_3 rfl (hml.rd S (by omega) (by omega))) <| qd rfl (fun _ S => does_index sl_22 sz_45 rfl rfl (hps.adr (by omega)) (by omega) (by omega)) <| qd rfl (fun _ S => (does_loadIn agg_45 sz_45 rfl S hps (by omega) (by omega))) <| qK ?_;clear H a;intro a H
   refine wq_eff rfl ?_
   refine list_alloc H rfl S ze_45 ?_;clear H a S;intro b21 _ a hb21 hbw21 S H
   refine wpList_nil (And.intro (S.sel [1, 2] rfl rfl) ?_)
   refine wq_eff rfl ?_
   refine list_store H S (i := 0) rfl rfl rfl rfl sz_45 rfl rfl ?_
   clear H a S;intro _ a S H
   refine wpList_nil (And.intro (S.sel [1, 2] rfl rfl) ?_)
   refine wq_nil ?_
   refine k54 _ _ ?_
   clear k54 K54
   have SR := (S.sel [0, 2] rfl rfl)
   refine meet_sr (X := Unit) [1, 2, 3, 4, 5, 18, 19, 20, 21] H rfl (fun _u => []) (fun _u => [ownM 3 1 Ath pe.length cth (lcl (depF (fun p => thr ps out pe l t p i) (l.getD i Mv.zero).at_ (l.getD i Mv.zero).fr (l.getD i Mv.zero).many t))]) (fun _u => True) SR (fun K56 k56 => ?_) ?_
   ·skip
    replace H := H.keep [1, 2, 3, 4, 5, 18, 19, 20, 21] rfl
    refine sS H fun K57 k57=>sr 2 rfl <| si sl_49 sz_76 rfl rfl (hml.adr (by omega)) (by omega) <| sp fo_76_2 rfl <| slm one_3 rfl (hml.rd S (by omega) (by omega)) <| sr 2 rfl <| sE ?_;clear H a;intro a H
    refine k57 _ ?_;clear k57 K57
    refine condG H rfl (fun hc13 => ?_) (fun hc13 => ?_)
    ·skip
     have hAth := ownM.adr S (i := 1) rfl (by omega)
     have htb := thr_bd hall hpk (t := t) (p := (l.getD i Mv.zero).fr.toNat) (n := i) (by omega)
     replace H := H.keep [1, 2, 3, 4, 5, 18, 19, 20, 21] rfl
     replace S := S.drew
     refine one_wq [(0, true), (1, true), (2, true), (3, true), (4, true), (5, true), (6, true), (8, true), (9, true), (10, true), (11, true), (12, true), (7, false), (13, true), (14, true), (15, false)] (by kernel_rfl) (by kernel_rfl) (S.sel [0, 2] rfl rfl) ?_
     refine qF H <| qr 3 rfl <| qd rfl (fun _ S => does_indexN sl_49 sz_76 rfl rfl (hml.adr (by omega)) (by omega)) <| qd rfl (fun _ S => (does_field_pt fo_76_1 rfl)) <| qd rfl (fun _ S => does_load one_3 rfl (hml.rd S (by omega) (by omega))) <| qd rfl (fun _ S => does_index sl_23 sz_3 rfl rfl (hAth) (by omega) (by omega)) <| qr 2 rfl <| qd rfl (fun _ S => does_indexN sl_49 sz_76 rfl rfl (hml.adr (by omega)) (by omega)) <| qd rfl (fun _ S => (does_field_pt fo_76_3 rfl)) <| qd rfl (fun _ S => does_load one_3 rfl (hml.rd S (by omega) (by omega))) <| qK ?_;clear H a;intro a H
     refine wq_eff rfl ?_
     refine ls 1 H <| slm one_3 rfl (ownM.rd S (i := 1) rfl (by omega) (by omega)) <| sE ?_;clear H a;intro a H
     refine wpList_nil (And.intro (S.sel [0, 2] rfl rfl) ?_)
     refine qF H <| qd rfl (fun _ S => does_sub rfl rfl (by show i64ok (thr ps out pe l t (l.getD i Mv.zero).fr.toNat i - (l.getD i Mv.zero).many); unfold i64ok; omega)) <| qd rfl (fun _ S => does_index sl_23 sz_3 rfl rfl (hAth) (by omega) (by omega)) <| qK ?_;clear H a;intro a H
     refine wq_eff rfl ?_
     refine list_store_own H S (i := 1) rfl rfl rfl (by omega) (by omega) sz_3 rfl ?_
     clear H a S;intro _ a S H
     replace S := S.recell (i := 1) rfl (cell' := lcl (depF (fun p => thr ps out pe l t p i) (l.getD i Mv.zero).at_ (l.getD i Mv.zero).fr (l.getD i Mv.zero).many t)) (fun k j _ hj => dep1 (by omega) hfrP.1 rfl k j hj)
     refine wpList_nil (And.intro (S.sel [0, 2] rfl rfl) ?_)
     refine wq_nil ?_
     skip
     exact k56 () a _ (trivial) (S.sel [1, 0, 2] rfl rfl) (H.keep [1, 2, 3, 4, 5, 18, 19, 20, 21] rfl)
    refine wp_skip ?_
    replace S := S.recell (i := 1) rfl (cell' := lcl (depF (fun p => thr ps out pe l t p i) (l.getD i Mv.zero).at_ (l.getD i Mv.zero).fr (l.getD i Mv.zero).many t)) (fun k j _ hj => dep0 (by omega) k j hj)
    exact k56 () a _ (trivial) (S.sel [1, 0, 2] rfl rfl) (H.keep [1, 2, 3, 4, 5, 18, 19, 20, 21] rfl)
   clear SR H S a
   intro xm a wm hp S H
   obtain ⟨_u, rfl⟩ : ∃ y, y = xm := ⟨_, rfl⟩
   replace H := H.keep [1, 2, 3, 4, 5, 18, 19, 20, 21] rfl
   replace S := S.drew
   refine seq_wq [(0, true), (1, true), (2, true), (3, true), (4, true), (5, true), (6, true), (7, true), (8, true), (9, true), (10, true), (11, true), (14, true), (12, false), (13, true), (15, true)] (by kernel_rfl) (by kernel_rfl) (S.sel [0, 1, 2] rfl rfl) fun K59 k59 => ?_
   refine qF H <| qr 2 rfl <| qd rfl (fun _ S => does_indexN sl_49 sz_76 rfl rfl (hml.adr (by omega)) (by omega)) <| qd rfl (fun _ S => (does_field_pt fo_76_2 rfl)) <| qd rfl (fun _ S => does_load one_3 rfl (hml.rd S (by omega) (by omega))) <| qd rfl (fun _ S => (does_loadBox agg_45 sz_45 rfl S (i := 1) rfl rfl)) <| qr 3 rfl <| qd rfl (fun _ S => does_indexN sl_49 sz_76 rfl rfl (hml.adr (by omega)) (by omega)) <| qd rfl (fun _ S => (does_field_pt fo_76_1 rfl)) <| qd rfl (fun _ S => does_load one_3 rfl (hml.rd S (by omega) (by omega))) <| qr 1 rfl <| qK ?_;clear H a;intro a H
   refine wq_eff rfl ?_
   refine list_call H rfl rfl Try.func70 rfl rfl (ref_Gone (mvP ps (l.getD i Mv.zero)) out (l.getD i Mv.zero).fr _ (fun h3 => by have := psgOk_iff.1 (hV.pas (l.getD i Mv.zero).pas.toNat (by omega)); unfold mvP at h3 ⊢; omega)) ?_;clear H a
   rintro _ _ a ⟨rfl, S2⟩ H
   replace S := S.call S2;clear S2
   rw [show goneI out (mvP ps (l.getD i Mv.zero)) (l.getD i Mv.zero).fr = mvG ps out (l.getD i Mv.zero) from rfl] at H
   refine wpList_nil (And.intro (S.sel [0, 1, 2] rfl rfl) ?_)
   refine qF H <| qd rfl (fun _ S => does_add rfl rfl (by unfold i64ok; omega)) <| qr 1 rfl <| qK ?_;clear H a;intro a H
   refine wq_nil ?_
   refine k59 _ _ ?_
   clear k59 K59
   refine condG H rfl (fun hc14 => ?_) (fun hc14 => ?_)
   ·skip
    have hAth := ownM.adr S (i := 0) rfl (by omega)
    have htb := dep_bd hall hpk (t := t) (p := (mvO ps (l.getD i Mv.zero)).toNat) (n := i) (by omega)
    replace H := H.keep [1, 2, 3, 4, 5, 18, 19, 20, 21] rfl
    replace S := S.drew
    refine one_wq [(0, true), (1, true), (2, true), (3, true), (4, true), (5, true), (6, true), (10, true), (11, true), (12, true), (13, true), (14, true), (7, false), (8, true), (9, false), (15, true), (16, true), (17, false)] (by kernel_rfl) (by kernel_rfl) (S.sel [1, 2] rfl rfl) ?_
    refine qF H <| qr 1 rfl <| qd rfl (fun _ S => (does_loadBox agg_45 sz_45 rfl S (i := 0) rfl rfl)) <| qr 2 rfl <| qd rfl (fun _ S => does_indexN sl_49 sz_76 rfl rfl (hml.adr (by omega)) (by omega)) <| qd rfl (fun _ S => (does_field_pt fo_76_1 rfl)) <| qd rfl (fun _ S => does_load one_3 rfl (hml.rd S (by omega) (by omega))) <| qr 2 rfl <| qd rfl (fun _ S => does_indexN sl_49 sz_76 rfl rfl (hml.adr (by omega)) (by omega)) <| qd rfl (fun _ S => (does_field_pt fo_76_3 rfl)) <| qd rfl (fun _ S => does_load one_3 rfl (hml.rd S (by omega) (by omega))) <| qK ?_;clear H a;intro a H
    refine wq_eff rfl ?_
    refine list_call H rfl rfl Try.func60 rfl rfl (ref_Other (mvP ps (l.getD i Mv.zero)) (l.getD i Mv.zero).fr _) ?_;clear H a
    rintro _ _ a ⟨rfl, S2⟩ H
    replace S := S.call S2;clear S2
    rw [show othr (mvP ps (l.getD i Mv.zero)) (l.getD i Mv.zero).fr = mvO ps (l.getD i Mv.zero) from rfl] at H
    refine wpList_nil (And.intro (S.sel [1, 2] rfl rfl) ?_)
    refine qF H <| qd rfl (fun _ S => does_index sl_23 sz_3 rfl rfl (hAth) (by omega) (by omega)) <| qK ?_;clear H a;intro a H
    refine wq_eff rfl ?_
    refine ls 1 H <| slm one_3 rfl (ownM.rd S (i := 0) rfl (by omega) (by omega)) <| sE ?_;clear H a;intro a H
    refine wpList_nil (And.intro (S.sel [1, 2] rfl rfl) ?_)
    refine qF H <| qd rfl (fun _ S => does_add rfl rfl (by show i64ok (depF (fun p => thr ps out pe l t p i) (l.getD i Mv.zero).at_ (l.getD i Mv.zero).fr (l.getD i Mv.zero).many t (mvO ps (l.getD i Mv.zero)).toNat + (l.getD i Mv.zero).many); unfold i64ok; omega)) <| qd rfl (fun _ S => does_index sl_23 sz_3 rfl rfl (hAth) (by omega) (by omega)) <| qK ?_;clear H a;intro a H
    refine wq_eff rfl ?_
    refine list_store_own H S (i := 0) rfl rfl rfl (by omega) (by omega) sz_3 rfl ?_
    clear H a S;intro _ a S H
    replace S := S.recell (i := 0) rfl (cell' := lcl (fun p => thr ps out pe l t p (i + 1))) (fun k j _ hj => arr1 (by omega) htoP.1 rfl k j hj)
    refine wpList_nil (And.intro (S.sel [1, 2] rfl rfl) ?_)
    refine wq_nil ?_
    refine k53 _ _ ?_
    replace H := H.keep [1, 2, 3, 4, 5, 18, 19, 20] rfl
    refine sO H <| sr 1 rfl <| sd (does_add rfl rfl (by unfold i64ok; omega)) <| sr 1 rfl <| sE ?_;clear H a;intro a H
    exact k50 (g4 - 1) (i + 1) a _ (by omega) (⟨by omega, by omega⟩) (S.sel [0, 2] rfl rfl) (H.keep [20, 1, 2, 3, 4, 5, 18, 19] rfl)
   replace S := S.recell (i := 0) rfl (cell' := lcl (fun p => thr ps out pe l t p (i + 1))) (fun k j _ hj => arr0 (by omega) k j hj)
   refine wp_skip ?_
   refine k53 _ _ ?_
   refine sO H <| sr 1 rfl <| sd (does_add rfl rfl (by unfold i64ok; omega)) <| sr 1 rfl <| sE ?_;clear H a;intro a H
   exact k50 (g4 - 1) (i + 1) a _ (by omega) (⟨by omega, by omega⟩) (S.sel [0, 2] rfl rfl) (H.keep [20, 1, 2, 3, 4, 5, 18, 19] rfl)
  refine wp_exit ?_
  refine k48 _ _ ?_
  refine sS H fun K63 k63=>sr 1 rfl <| sE ?_;clear H a;intro a H
  refine k63 _ ?_;clear k63 K63
  refine wp_block ?_
  obtain rfl : i = l.length := by omega
  refine loop_st (X := Nat) (R0 := _) [1, 2, 3, 4, 5, 18, 19] H rfl (fun p => [(22, .int .i64 (p : Int))]) (fun p => []) (fun g p => p ≤ pe.length ∧ g + p = pe.length ∧ ∀ q, q < p → 0 ≤ thr ps out pe l t q l.length) (pe.length) 0 ?_ (S.sel [0, 1] rfl rfl) (H.keep [22, 1, 2, 3, 4, 5, 18, 19] rfl) ?_
  · exact ⟨by omega, by omega, fun q hq => absurd hq (Nat.not_lt_zero q)⟩
  clear H S a
  intro g5 x5 a w5 hp S H K64 k64
  obtain ⟨p, rfl⟩ : ∃ y, y = x5 := ⟨_, rfl⟩
  obtain ⟨hpl5, hgp, hneg⟩ := hp
  refine wp_seq_k fun K65 k65 => ?_
  refine sS H fun K66 k66=>sr 2 rfl <| sL sl_23 rfl <| sr 1 rfl <| sE ?_;clear H a;intro a H
  refine k66 _ ?_;clear k66 K66
  refine condL H rfl (fun hc15 => ?_) (fun hc15 => ?_)
  ·skip
   refine wp_skip ?_
   refine k65 _ _ ?_
   refine wp_seq_k fun K67 k67 => ?_
   refine wp_block ?_
   refine sS H fun K68 k68=>sr 2 rfl <| si sl_23 sz_3 rfl rfl (ownM.adr S (i := 0) rfl (by omega)) (by omega) <| slm one_3 rfl (ownM.rd S (i := 0) rfl (by omega) (by omega)) <| sr 1 rfl <| sE ?_;clear H a;intro a H
   refine k68 _ ?_;clear k68 K68
   refine condL H rfl (fun hc16 => ?_) (fun hc16 => ?_)
   ·skip
    replace H := H.keep [] rfl
    refine sS H fun K69 k69=>sr 2 rfl <| sE ?_;clear H a;intro a H
    refine k69 _ ?_;clear k69 K69
    refine wp_ret ?_
    refine ret2 (fn := Try.f33) rfl H rfl rfl ?_
    rw [outV_bad hc1 (by omega) (plan_thr (t := t) (p := p) (by omega) (by omega) (by omega))]
    exact ⟨rfl, (S.sel [] rfl rfl)⟩
   refine wp_skip ?_
   refine k67 _ _ ?_
   refine sO H <| sr 1 rfl <| sd (does_add rfl rfl (by unfold i64ok; omega)) <| sr 1 rfl <| sE ?_;clear H a;intro a H
   exact k64 (g5 - 1) (p + 1) a _ (by omega) (⟨by omega, by omega, fun q hq => by
     by_cases e : q = p
     · subst e; omega
     · exact hneg q (by omega)⟩) (S.sel [0, 1] rfl rfl) (H.keep [22, 1, 2, 3, 4, 5, 18, 19] rfl)
  refine wp_exit ?_
  refine k46 _ _ ?_
  refine sO H <| sr 1 rfl <| sd (does_add rfl rfl (by unfold i64ok; omega)) <| sr 1 rfl <| sE ?_;clear H a;intro a H
  exact k43 (g3 - 1) (t + 1) a _ (by omega) (⟨by omega, by omega, fun q hq => by
    by_cases e : q = t
    · subst e; exact thrB_yes fun p hp9 => hneg p (by omega)
    · exact hthr q (by omega)⟩) (S.sel [1] rfl rfl) (H.keep [18, 1, 2, 3, 4, 5] rfl)
 refine wp_exit ?_
 refine k41 _ _ ?_
 refine sS H fun K72 k72=>sr 1 rfl <| sE ?_;clear H a;intro a H
 refine k72 _ ?_;clear k72 K72
 refine wp_seq_k fun K73 k73 => ?_
 replace H := H.keep [1, 2, 3, 4, 5, 23] rfl
 refine sS H fun K74 k74=>sr 1 rfl <| sE ?_;clear H a;intro a H
 refine k74 _ ?_;clear k74 K74
 refine wp_block ?_
 refine loop_st (X := Nat) (R0 := _) [1, 2, 3, 4, 5] H rfl (fun p => [(23, .int .i64 (exitN xs pe p)), (24, .int .i64 (p : Int))]) (fun p => []) (fun g p => p ≤ P ∧ g + p = P) (P) 0 ?_ (S.sel [0] rfl rfl) (H.keep [23, 24, 1, 2, 3, 4, 5] rfl) ?_
 · exact ⟨by omega, by omega⟩
 clear H S a
 intro g6 x6 a w6 hp S H K75 k75
 obtain ⟨p, rfl⟩ : ∃ y, y = x6 := ⟨_, rfl⟩
 refine wp_seq_k fun K76 k76 => ?_
 refine sS H fun K77 k77=>sr 1 rfl <| sf fo_25_0 rfl <| sl S 0 one_3 rfl rfl rfl <| sr 1 rfl <| sE ?_;clear H a;intro a H
 refine k77 _ ?_;clear k77 K77
 refine condL H rfl (fun hc17 => ?_) (fun hc17 => ?_)
 ·skip
  refine wp_skip ?_
  refine k76 _ _ ?_
  refine wp_seq_k fun K78 k78 => ?_
  refine wp_block ?_
  refine seq_list fun K79 k79 => ?_
  refine ls 3 H <| sf fo_25_2 rfl <| sl S 0 one_23 rfl rfl rfl <| sr 1 rfl <| sE ?_;clear H a;intro a H
  refine list_call H rfl rfl Try.func57 rfl rfl (ref_has xs XA xc _ _ (hxs.now S) hxn) ?_;clear H a
  rintro _ _ a ⟨rfl, S2⟩ H
  replace S := S.call S2;clear S2
  refine k79 _ _ ?_;clear k79 K79
  refine cond_ H rfl (fun hc18 => ?_) (fun hc18 => ?_)
  ·skip
   try simp only [o1,o2,o3,o4,o5,o6,o7,o8,o9,oa] at hc18
   have h9 : exitN xs pe (p + 1) = exitN xs pe p + (if hasI xs p = true then pe.getD p 0 else 0) := rfl
   rw [if_pos hc18] at h9
   have heb := exit_bd (xs := xs) hpk p
   have hpp2 := hpp p (by omega)
   replace H := H.keep [1, 2, 3, 4, 5, 23, 24] rfl
   refine sO H <| sr 3 rfl <| si sl_23 sz_3 rfl rfl (hpe.adr (by omega)) (by omega) <| slm one_3 rfl (hpe.rd S (by omega) (by omega)) <| sd (does_add rfl rfl (by unfold i64ok; omega)) <| sr 1 rfl <| sE ?_;clear H a;intro a H
   refine k78 _ _ ?_
   replace H := H.keep [1, 2, 3, 4, 5, 23, 24] rfl
   refine sO H <| sr 1 rfl <| sd (does_add rfl rfl (by unfold i64ok; omega)) <| sr 1 rfl <| sE ?_;clear H a;intro a H
   rw [← h9] at H
   exact k75 (g6 - 1) (p + 1) a _ (by omega) (⟨by omega, by omega⟩) (S.sel [0] rfl rfl) (H.keep [23, 24, 1, 2, 3, 4, 5] rfl)
  try simp only [o1,o2,o3,o4,o5,o6,o7,o8,o9,oa] at hc18
  have h9 : exitN xs pe (p + 1) = exitN xs pe p + (if hasI xs p = true then pe.getD p 0 else 0) := rfl
  rw [if_neg (by rw [hc18]; simp), Int.add_zero] at h9
  refine wp_skip ?_
  refine k78 _ _ ?_
  refine sO H <| sr 1 rfl <| sd (does_add rfl rfl (by unfold i64ok; omega)) <| sr 1 rfl <| sE ?_;clear H a;intro a H
  rw [← h9] at H
  exact k75 (g6 - 1) (p + 1) a _ (by omega) (⟨by omega, by omega⟩) (S.sel [0] rfl rfl) (H.keep [23, 24, 1, 2, 3, 4, 5] rfl)
 refine wp_exit ?_
 refine k73 _ _ ?_
 refine wp_seq_k fun K83 k83 => ?_
 refine sS H fun K84 k84=>sr 1 rfl <| sE ?_;clear H a;intro a H
 refine k84 _ ?_;clear k84 K84
 refine wp_block ?_
 obtain rfl : P = p := by omega
 rw [show exitN xs pe P = exitN xs pe P + sm (fun k => outA ps xs out (l.getD k Mv.zero) T) 0 from (Int.add_zero _).symm] at H
 refine loop_st (X := Nat) (R0 := _) [1, 3, 4, 5] H rfl (fun i => [(23, .int .i64 (exitN xs pe P + sm (fun k => outA ps xs out (l.getD k Mv.zero) T) i)), (25, .int .i64 (i : Int))]) (fun i => []) (fun g i => i ≤ l.length ∧ g + i = l.length) (l.length) 0 ?_ (S.sel [0] rfl rfl) (H.keep [23, 25, 1, 3, 4, 5] rfl) ?_
 · exact ⟨by omega, by omega⟩
 clear H S a
 intro g7 x7 a w7 hp S H K85 k85
 obtain ⟨i, rfl⟩ : ∃ y, y = x7 := ⟨_, rfl⟩
 refine wp_seq_k fun K86 k86 => ?_
 refine sS H fun K87 k87=>sr 2 rfl <| sL sl_49 rfl <| sr 1 rfl <| sE ?_;clear H a;intro a H
 refine k87 _ ?_;clear k87 K87
 refine condL H rfl (fun hc19 => ?_) (fun hc19 => ?_)
 ·skip
  refine wp_skip ?_
  refine k86 _ _ ?_
  refine wp_seq_k fun K88 k88 => ?_
  refine wp_block ?_
  have hmo := hall i (by omega)
  obtain ⟨⟨hpas, hat, hmany⟩, hgn, hxf⟩ := mvOk_iff.1 hmo
  obtain ⟨pi, pe_, hF⟩ := mv_facts hV hpas hgn
  have hg1 := hF.g
  have hfrP := hF.frP
  have htoP := hF.toP
  replace H := H.keep [1, 3, 4, 5, 23, 25] rfl
  replace S := S.drew
  refine seq_wq [(0, true), (1, true), (2, true), (3, true), (4, true), (5, true), (6, true), (7, true), (8, true), (9, false), (10, false)] (by kernel_rfl) (by kernel_rfl) (S.sel [0] rfl rfl) fun K89 k89 => ?_
  refine qF H <| qd rfl (fun _ S => (does_field fo_25_1 rfl)) <| qd rfl (fun _ S => does_load one_22 rfl (boxM.rd S (i := 0) rfl rfl)) <| qr 2 rfl <| qd rfl (fun _ S => does_indexN sl_49 sz_76 rfl rfl (hml.adr (by omega)) (by omega)) <| qd rfl (fun _ S => (does_field_pt fo_76_0 rfl)) <| qd rfl (fun _ S => does_load one_3 rfl (hml.rd S (by omega) (by omega))) <| qd rfl (fun _ S => does_index sl_22 sz_45 rfl rfl (hps.adr (by omega)) (by omega) (by omega)) <| qd rfl (fun _ S => (does_loadIn agg_45 sz_45 rfl S hps (by omega) (by omega))) <| qK ?_;clear H a;intro a H
  refine wq_eff rfl ?_
  refine list_alloc H rfl S ze_45 ?_;clear H a S;intro b26 _ a hb26 hbw26 S H
  refine wpList_nil (And.intro (S.sel [1] rfl rfl) ?_)
  refine wq_eff rfl ?_
  refine list_store H S (i := 0) rfl rfl rfl rfl sz_45 rfl rfl ?_
  clear H a S;intro _ a S H
  refine wpList_nil (And.intro (S.sel [1] rfl rfl) ?_)
  refine wq_nil ?_
  refine k89 _ _ ?_
  clear k89 K89
  cases hxo : hasI xs (mvO ps (l.getD i Mv.zero))
  ·skip
   replace H := H.keep [1, 3, 4, 5, 23, 25, 26] rfl
   replace S := S.drew
   refine seq_wq [(0, true), (1, true), (2, true), (3, true), (4, true), (5, true), (6, true), (7, true), (8, false), (9, false), (10, true), (11, true), (12, true), (13, true), (14, true), (15, true), (16, true), (17, true), (18, true), (19, true), (20, true), (21, true), (22, true), (23, true), (24, true), (25, true), (26, true), (27, true)] (by kernel_rfl) (by kernel_rfl) (S.sel [0, 1] rfl rfl) fun K90 k90 => ?_
   refine qF H <| qd rfl (fun _ S => (does_field fo_25_2 rfl)) <| qd rfl (fun _ S => does_load one_23 rfl (boxM.rd S (i := 1) rfl rfl)) <| qd rfl (fun _ S => (does_loadBox agg_45 sz_45 rfl S (i := 0) rfl rfl)) <| qr 2 rfl <| qd rfl (fun _ S => does_indexN sl_49 sz_76 rfl rfl (hml.adr (by omega)) (by omega)) <| qd rfl (fun _ S => (does_field_pt fo_76_1 rfl)) <| qd rfl (fun _ S => does_load one_3 rfl (hml.rd S (by omega) (by omega))) <| qK ?_;clear H a;intro a H
   refine wq_eff rfl ?_
   refine list_call H rfl rfl Try.func60 rfl rfl (ref_Other (mvP ps (l.getD i Mv.zero)) (l.getD i Mv.zero).fr _) ?_;clear H a
   rintro _ _ a ⟨rfl, S2⟩ H
   replace S := S.call S2;clear S2
   rw [show othr (mvP ps (l.getD i Mv.zero)) (l.getD i Mv.zero).fr = mvO ps (l.getD i Mv.zero) from rfl] at H
   refine wpList_nil (And.intro (S.sel [0, 1] rfl rfl) ?_)
   refine wq_eff rfl ?_
   refine list_call H rfl rfl Try.func57 rfl rfl (ref_has xs XA xc _ _ (hxs.now S) hxn) ?_;clear H a
   rintro _ _ a ⟨rfl, S2⟩ H
   replace S := S.call S2;clear S2
   rw [hxo] at H
   refine wpList_nil (And.intro (S.sel [0, 1] rfl rfl) ?_)
   refine qF H <| qr 1 rfl <| qK ?_;clear H a;intro a H
   refine wq_no H rfl rfl rfl rfl rfl ?_;clear H a;intro a H
   refine wq_no H rfl rfl rfl rfl rfl ?_;clear H a;intro a H
   refine wq_no H rfl rfl rfl rfl rfl ?_;clear H a;intro a H
   refine wq_no H rfl rfl rfl rfl rfl ?_;clear H a;intro a H
   refine wq_no H rfl rfl rfl rfl rfl ?_;clear H a;intro a H
   refine wq_no H rfl rfl rfl rfl rfl ?_;clear H a;intro a H
   refine wq_no H rfl rfl rfl rfl rfl ?_;clear H a;intro a H
   refine wq_no H rfl rfl rfl rfl rfl ?_;clear H a;intro a H
   refine wq_no H rfl rfl rfl rfl rfl ?_;clear H a;intro a H
   refine wq_no H rfl rfl rfl rfl rfl ?_;clear H a;intro a H
   refine wq_no H rfl rfl rfl rfl rfl ?_;clear H a;intro a H
   refine wq_no H rfl rfl rfl rfl rfl ?_;clear H a;intro a H
   refine wq_no H rfl rfl rfl rfl rfl ?_;clear H a;intro a H
   refine wq_no H rfl rfl rfl rfl rfl ?_;clear H a;intro a H
   refine wq_no H rfl rfl rfl rfl rfl ?_;clear H a;intro a H
   refine wq_no H rfl rfl rfl rfl rfl ?_;clear H a;intro a H
   refine qF H <| qd rfl (fun _ S => (does_pick rfl rfl rfl)) <| qK ?_;clear H a;intro a H
   refine wq_nil ?_
   refine k90 _ _ ?_
   clear k90 K90
   refine cond_ H rfl (fun hc20 => ?_) (fun hc20 => ?_)
   ·skip
    skip
    cases hc20
   skip
   have h9 : outA ps xs out (l.getD i Mv.zero) T = 0 := by unfold outA; exact if_neg fun h => by (have := h.1; rw [hxo] at this; cases this)
   have h8 : exitN xs pe P + sm (fun k => outA ps xs out (l.getD k Mv.zero) T) (i + 1) = exitN xs pe P + sm (fun k => outA ps xs out (l.getD k Mv.zero) T) i := by
     show exitN xs pe P + (sm (fun k => outA ps xs out (l.getD k Mv.zero) T) i + outA ps xs out (l.getD i Mv.zero) T) = _
     rw [h9]; omega
   refine wp_skip ?_
   refine k88 _ _ ?_
   replace H := H.keep [1, 3, 4, 5, 23, 25] rfl
   refine sO H <| sr 1 rfl <| sd (does_add rfl rfl (by unfold i64ok; omega)) <| sr 1 rfl <| sE ?_;clear H a;intro a H
   rw [← h8] at H
   exact k85 (g7 - 1) (i + 1) a _ (by omega) (⟨by omega, by omega⟩) (S.sel [1] rfl rfl) (H.keep [23, 25, 1, 3, 4, 5] rfl)
  replace H := H.keep [1, 3, 4, 5, 23, 25, 26] rfl
  replace S := S.drew
  refine seq_wq [(0, true), (1, true), (2, true), (3, true), (4, true), (5, true), (6, true), (7, true), (8, false), (9, false), (10, true), (11, true), (12, true), (13, true), (14, true), (15, true), (16, true), (17, true), (18, true), (19, true), (20, true), (21, true), (22, true), (25, true), (23, false), (24, true), (26, true), (27, true)] (by kernel_rfl) (by kernel_rfl) (S.sel [0, 1] rfl rfl) fun K92 k92 => ?_
  refine qF H <| qd rfl (fun _ S => (does_field fo_25_2 rfl)) <| qd rfl (fun _ S => does_load one_23 rfl (boxM.rd S (i := 1) rfl rfl)) <| qd rfl (fun _ S => (does_loadBox agg_45 sz_45 rfl S (i := 0) rfl rfl)) <| qr 2 rfl <| qd rfl (fun _ S => does_indexN sl_49 sz_76 rfl rfl (hml.adr (by omega)) (by omega)) <| qd rfl (fun _ S => (does_field_pt fo_76_1 rfl)) <| qd rfl (fun _ S => does_load one_3 rfl (hml.rd S (by omega) (by omega))) <| qK ?_;clear H a;intro a H
  refine wq_eff rfl ?_
  refine list_call H rfl rfl Try.func60 rfl rfl (ref_Other (mvP ps (l.getD i Mv.zero)) (l.getD i Mv.zero).fr _) ?_;clear H a
  rintro _ _ a ⟨rfl, S2⟩ H
  replace S := S.call S2;clear S2
  rw [show othr (mvP ps (l.getD i Mv.zero)) (l.getD i Mv.zero).fr = mvO ps (l.getD i Mv.zero) from rfl] at H
  refine wpList_nil (And.intro (S.sel [0, 1] rfl rfl) ?_)
  refine wq_eff rfl ?_
  refine list_call H rfl rfl Try.func57 rfl rfl (ref_has xs XA xc _ _ (hxs.now S) hxn) ?_;clear H a
  rintro _ _ a ⟨rfl, S2⟩ H
  replace S := S.call S2;clear S2
  rw [hxo] at H
  refine wpList_nil (And.intro (S.sel [0, 1] rfl rfl) ?_)
  refine qF H <| qr 1 rfl <| qK ?_;clear H a;intro a H
  refine wq_yes H rfl rfl rfl rfl (fun _ S => does_move rfl) ?_;clear H a;intro a H
  refine wq_yes H rfl rfl rfl rfl (fun _ S => does_move rfl) ?_;clear H a;intro a H
  refine wq_yes H rfl rfl rfl rfl (fun _ S => does_indexN sl_49 sz_76 rfl rfl (hml.adr (by omega)) (by omega)) ?_;clear H a;intro a H
  refine wq_yes H rfl rfl rfl rfl (fun _ S => (does_field_pt fo_76_2 rfl)) ?_;clear H a;intro a H
  refine wq_yes H rfl rfl rfl rfl (fun _ S => does_load one_3 rfl (hml.rd S (by omega) (by omega))) ?_;clear H a;intro a H
  refine wq_yes H rfl rfl rfl rfl (fun _ S => (does_loadBox agg_45 sz_45 rfl S (i := 0) rfl rfl)) ?_;clear H a;intro a H
  refine wq_yes H rfl rfl rfl rfl (fun _ S => does_move rfl) ?_;clear H a;intro a H
  refine wq_yes H rfl rfl rfl rfl (fun _ S => does_move rfl) ?_;clear H a;intro a H
  refine wq_yes H rfl rfl rfl rfl (fun _ S => does_move rfl) ?_;clear H a;intro a H
  refine wq_yes H rfl rfl rfl rfl (fun _ S => does_indexN sl_49 sz_76 rfl rfl (hml.adr (by omega)) (by omega)) ?_;clear H a;intro a H
  refine wq_yes H rfl rfl rfl rfl (fun _ S => (does_field_pt fo_76_1 rfl)) ?_;clear H a;intro a H
  refine wq_yes H rfl rfl rfl rfl (fun _ S => does_load one_3 rfl (hml.rd S (by omega) (by omega))) ?_;clear H a;intro a H
  refine wq_yes H rfl rfl rfl rfl (fun _ S => does_move rfl) ?_;clear H a;intro a H
  refine wq_eff rfl ?_
  refine list_yes H rfl rfl ?_
  refine list_call H rfl rfl Try.func70 rfl rfl (ref_Gone (mvP ps (l.getD i Mv.zero)) out (l.getD i Mv.zero).fr _ (fun h3 => by have := psgOk_iff.1 (hV.pas (l.getD i Mv.zero).pas.toNat (by omega)); unfold mvP at h3 ⊢; omega)) ?_;clear H a
  rintro _ _ a ⟨rfl, S2⟩ H
  replace S := S.call S2;clear S2
  rw [show goneI out (mvP ps (l.getD i Mv.zero)) (l.getD i Mv.zero).fr = mvG ps out (l.getD i Mv.zero) from rfl] at H
  refine wpList_nil (And.intro (S.sel [0, 1] rfl rfl) ?_)
  refine wq_yes H rfl rfl rfl rfl (fun _ S => does_add rfl rfl (by unfold i64ok; omega)) ?_;clear H a;intro a H
  refine wq_yes H rfl rfl rfl rfl (fun _ S => does_leq rfl rfl) ?_;clear H a;intro a H
  refine qF H <| qd rfl (fun _ S => (does_and rfl rfl rfl)) <| qK ?_;clear H a;intro a H
  refine wq_nil ?_
  refine k92 _ _ ?_
  clear k92 K92
  refine cond_ H rfl (fun hc21 => ?_) (fun hc21 => ?_)
  ·skip
   simp only [Bool.true_and, o1,o2,o3,o4,o5,o6,o7,o8,o9,oa] at hc21
   have h9 : outA ps xs out (l.getD i Mv.zero) T = (l.getD i Mv.zero).many := by unfold outA; exact if_pos ⟨hxo, by omega⟩
   have h8 : exitN xs pe P + sm (fun k => outA ps xs out (l.getD k Mv.zero) T) (i + 1) = exitN xs pe P + sm (fun k => outA ps xs out (l.getD k Mv.zero) T) i + (l.getD i Mv.zero).many := by
     show exitN xs pe P + (sm (fun k => outA ps xs out (l.getD k Mv.zero) T) i + outA ps xs out (l.getD i Mv.zero) T) = _
     rw [h9]; omega
   have hob := outA_bd (T := T) hall (n := i) (by omega)
   have heb := exit_bd (xs := xs) hpk P
   replace H := H.keep [1, 3, 4, 5, 23, 25] rfl
   refine sO H <| sr 3 rfl <| si sl_49 sz_76 rfl rfl (hml.adr (by omega)) (by omega) <| sp fo_76_3 rfl <| slm one_3 rfl (hml.rd S (by omega) (by omega)) <| sd (does_add rfl rfl (by unfold i64ok; omega)) <| sr 1 rfl <| sE ?_;clear H a;intro a H
   refine k88 _ _ ?_
   replace H := H.keep [1, 3, 4, 5, 23, 25] rfl
   refine sO H <| sr 1 rfl <| sd (does_add rfl rfl (by unfold i64ok; omega)) <| sr 1 rfl <| sE ?_;clear H a;intro a H
   rw [← h8] at H
   exact k85 (g7 - 1) (i + 1) a _ (by omega) (⟨by omega, by omega⟩) (S.sel [1] rfl rfl) (H.keep [23, 25, 1, 3, 4, 5] rfl)
  simp only [Bool.true_and, o1,o2,o3,o4,o5,o6,o7,o8,o9,oa] at hc21
  have h9 : outA ps xs out (l.getD i Mv.zero) T = 0 := by unfold outA; exact if_neg fun h => by omega
  have h8 : exitN xs pe P + sm (fun k => outA ps xs out (l.getD k Mv.zero) T) (i + 1) = exitN xs pe P + sm (fun k => outA ps xs out (l.getD k Mv.zero) T) i := by
    show exitN xs pe P + (sm (fun k => outA ps xs out (l.getD k Mv.zero) T) i + outA ps xs out (l.getD i Mv.zero) T) = _
    rw [h9]; omega
  refine wp_skip ?_
  refine k88 _ _ ?_
  refine sO H <| sr 1 rfl <| sd (does_add rfl rfl (by unfold i64ok; omega)) <| sr 1 rfl <| sE ?_;clear H a;intro a H
  rw [← h8] at H
  exact k85 (g7 - 1) (i + 1) a _ (by omega) (⟨by omega, by omega⟩) (S.sel [1] rfl rfl) (H.keep [23, 25, 1, 3, 4, 5] rfl)
 refine wp_exit ?_
 refine k83 _ _ ?_
 refine sS H fun K96 k96=>sr 3 rfl <| sE ?_;clear H a;intro a H
 refine k96 _ ?_;clear k96 K96
 refine wp_ret ?_
 refine ret2 (fn := Try.f33) rfl H rfl rfl ?_
 obtain rfl : i = l.length := by omega
 have hgood : goodM l := fun q hq => (mvOk_iff.1 (hall q hq)).1.2.2.1
 rw [outV_ok hc1 (by omega) (plan_yes (fun k hk => ⟨hall k hk, (hIH k (by omega)).2 hgood⟩) (fun q hq => hthr q (by omega)))]
 exact ⟨rfl, (S.sel [] rfl rfl)⟩

end Go.Proofs.Ytlmddkekeoebcaa
