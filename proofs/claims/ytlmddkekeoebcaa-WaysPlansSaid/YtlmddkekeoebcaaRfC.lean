/- RfC. Printed by gen.py. -/
import Derived.Test.YtlmddkekeoebcaaRfB
import Derived.Test.YtlmddkekeoebcaaRwF
import Derived.Test.YtlmddkekeoebcaaRfp
import Derived.Test.YtlmddkekeoebcaaWyI
namespace Go.Proofs.Ytlmddkekeoebcaa
open Go.RowKit
set_option linter.unusedVariables false
set_option linter.unusedSimpArgs false
set_option maxRecDepth 100000
set_option maxHeartbeats 4000000


theorem ref_nodeI (E : List Eg) (nb P T : Nat) (st1 st2 : Value) (EA : Option Addr) (ec k : Nat) (AA : Option Addr) (A : Nat → Option Addr) (c : Nat → Nat) (vol : Int) (p : Int) (t : Nat) (w : World) (F : Nat → Prop) (S : St w F [boxM nb 124 [.int .i64 (P : Int), st1, st2, .int .i64 (T : Int), .slice EA (E).length ec, .slice AA (k) (k), .int .i64 (vol)]] w) (hp : 0 ≤ p ∧ p ≤ 1000) (ht : t ≤ 1000) (hT : T ≤ 1000) :
    Calls Try.prog 74 [.pointer (some ⟨nb, 0, none⟩), .int .i64 p, .int .i64 (t : Int)].toArray w (Ret fun u w' => u = .int .i64 ((ndR T p.toNat t : Nat) : Int) ∧ w' = w) := by
  have h := ref_node E nb P T st1 st2 EA ec k AA A c vol p.toNat t w F S (by omega) ht hT
  rw [Int.toNat_of_nonneg hp.1] at h
  exact h
def jrKs (T : Nat) (xs : List Int) (out : Int) (p : Psg) (i t : Nat) : Nat → List Jn
  | 0 => []
  | k + 1 => jrKs T xs out p i t k ++ jrOne T xs out p i t k
theorem jrKs_len {T : Nat} {xs : List Int} {out : Int} {p : Psg} {i t : Nat} : ∀ k, (jrKs T xs out p i t k).length ≤ k := by
  intro k
  induction k with
  | zero => exact Nat.le_refl 0
  | succ k ih => rw [jrKs, List.length_append]; have := jrOne_len (T := T) (xs := xs) (out := out) (p := p) (i := i) (t := t) (k := k); omega
section
variable {P T : Nat} {pe xs : List Int} {out : Int} {ps : List Psg} {p t i k : Nat} {A : List Jn} {b : Jn}
theorem jt_exit (h : hasI xs p = true) : (A ++ (b :: jrTicks P T xs p t)) ++ [⟨ndR T p t, P * (T + 1) + 1, 1073741824, ⟨-1, 0, 0, 0⟩⟩] = A ++ (b :: jrTicks P T xs p (t + 1)) := by
  rw [jrTicks, jrTick, if_pos h]; simp [farI, rmv]
theorem jt_wait (h : hasI xs p = false) (ht : t < T) : (A ++ (b :: jrTicks P T xs p t)) ++ [⟨ndR T p t, ndR T p (t + 1), 1073741824, ⟨-1, 0, 0, 0⟩⟩] = A ++ (b :: jrTicks P T xs p (t + 1)) := by
  rw [jrTicks, jrTick, if_neg (by rw [h]; simp), if_pos ht]; simp [farI, rmv]
theorem jt_none (h : hasI xs p = false) (ht : ¬ t < T) : A ++ (b :: jrTicks P T xs p t) = A ++ (b :: jrTicks P T xs p (t + 1)) := by
  rw [jrTicks, jrTick, if_neg (by rw [h]; simp), if_neg ht, List.append_nil]
theorem jt_beg : A ++ [⟨P * (T + 1), ndR T p 0, pe.getD p 0, ⟨-1, 0, 0, 0⟩⟩] = A ++ (jrBeg P T pe p :: jrTicks P T xs p 0) := rfl
theorem jt_place : jrPlaces P T pe xs p ++ (jrBeg P T pe p :: jrTicks P T xs p (T + 1)) = jrPlaces P T pe xs (p + 1) := rfl
theorem jk_two : (A ++ (jrHeads T xs out ps t ++ jrPsgs T xs out ps t i)) ++ jrKs T xs out (ps.getD i Psg.zero) i t 2 = A ++ (jrHeads T xs out ps t ++ jrPsgs T xs out ps t (i + 1)) := by
  simp [jrPsgs, jrKs]
theorem jk_row : A ++ (jrHeads T xs out ps t ++ jrPsgs T xs out ps t ps.length) = A ++ jrHeads T xs out ps (t + 1) := rfl
theorem jk_no {q : Psg} (h : jrOne T xs out q i t k = []) : A ++ jrKs T xs out q i t k = A ++ jrKs T xs out q i t (k + 1) := by rw [jrKs, h, List.append_nil]
theorem jk_yes {q : Psg} {j : Jn} (h : jrOne T xs out q i t k = [j]) : (A ++ jrKs T xs out q i t k) ++ [j] = A ++ jrKs T xs out q i t (k + 1) := by rw [jrKs, h]; simp
theorem one_no {q : Psg} (h : ¬ ((0 ≤ goneI out q (endI q k) ∧ (t : Int) + goneI out q (endI q k) ≤ T) ∧ hasI xs (endI q k) = false)) : jrOne T xs out q i t k = [] := if_neg h
theorem one_yes {q : Psg} (h : (0 ≤ goneI out q (endI q k) ∧ (t : Int) + goneI out q (endI q k) ≤ T) ∧ hasI xs (endI q k) = false) : jrOne T xs out q i t k = [⟨ndR T (endI q k).toNat t, ndR T (endI q (1 - k)).toNat (t + (goneI out q (endI q k)).toNat), q.wide, ⟨i, 0, t, 0⟩⟩] := if_pos h
end
theorem go3 (d T t : Int) : d < 0 ∨ (0 ≤ d ∧ ¬ t + d ≤ T) ∨ (0 ≤ d ∧ t + d ≤ T) := by omega
def ecl (p : Psg) (k _j : Nat) : Value := .int .i64 (endI p k)
theorem ecl_two {p : Psg} : ∀ k j, k < 2 → j < 1 → ([[Value.int .i64 p.a], [Value.int .i64 p.b]].getD k []).getD j undef = ecl p k j := by
  intro k j hk hj
  have : j = 0 := by omega
  subst this
  match k, hk with
  | 0, _ => rfl
  | 1, _ => rfl
theorem mk_hdc0 : ∀ k j, j < 1 → [Value.slice none 0 0].getD j undef = hdc (fun _ => none) (fun i => (ixs (egs []) i).length) (fun _ => 0) k j := by
  intro k j hj
  have : j = 0 := by omega
  subst this; rfl
theorem push_cells {E : List Eg} {r : Nat → Int} {e : Nat} {m : Int} : ∀ k j, j < 5 → cput (egc E (upd r e (r e - m))) (tw e) 2 (.int .i64 (upd r e (r e - m) (tw e) + m)) k j = egc E (pushE r e m) k j := by
  intro k j hj
  rw [egc_upd k j hj, upd_ne _ _ (fun h => tw_ne h)]
  rfl


theorem ref_Gone (p : Psg) (out f : Int) (w : World) (hm : p.kind = 3 → 0 ≤ p.mach ∧ p.mach ≤ 11) :
    Calls Try.prog 70 [.agg [.int .i64 p.a, .int .i64 p.b, .int .i64 p.kind, .int .i64 p.ticks, .int .i64 p.wide, .int .i64 p.mach, .int .i64 p.still].toArray, .int .i64 out, .int .i64 f].toArray w (Ret (fun v w' => v = .int .i64 (goneI out p f) ∧ St w noF [] w')) := by
 refine enter Try.func70 rfl Try.ntmps70 rfl (fun a H => ?_)
 have S := St.start w
 refine seq_list fun K1 k1 => ?_
 refine list_box H rfl S rfl rfl ?_;clear H a S;intro b3 _ a hb3 hbw3 S H
 refine ls 1 H <| sr 1 rfl <| sE ?_;clear H a;intro a H
 refine k1 _ _ ?_;clear k1 K1
 refine wp_seq_k fun K2 k2 => ?_
 refine wp_block ?_
 replace H := H.keep [1, 2, 3] rfl
 refine seq_list fun K3 k3 => ?_
 refine ls 2 H <| sd ((does_loadBox agg_45 sz_45 rfl S (i := 0) rfl rfl)) <| sr 1 rfl <| sE ?_;clear H a;intro a H
 refine list_call H rfl rfl Try.func60 rfl rfl (ref_Other p f _) ?_;clear H a
 rintro _ _ a ⟨rfl, S2⟩ H
 replace S := S.call S2;clear S2
 refine ls 7 H <| sr 2 rfl <| sg 3 4 12 15 false rfl rfl (fun hg5 => by
     have hq5 := hg5;try simp only [o1,o2,o3,o4,o5,o6,o7,o8,o9,oa] at hq5
     exact sy hg5 <| sf fo_45_2 rfl <| sy hg5 <| sl S 0 one_3 rfl rfl rfl <| sy hg5 <| sr 1 rfl <| sz 3 rfl rfl rfl) <| so rfl rfl rfl <| sr 1 rfl <| sE ?_;clear H a;intro a H
 refine k3 _ _ ?_;clear k3 K3
 refine cond_ H rfl (fun hc1 => ?_) (fun hc1 => ?_)
 ·skip
  try simp only [o1,o2,o3,o4,o5,o6,o7,o8,o9,oa] at hc1
  replace H := H.keep [] rfl
  refine sS H fun K4 k4=>sr 1 rfl <| sE ?_;clear H a;intro a H
  refine k4 _ ?_;clear k4 K4
  refine wp_ret ?_
  refine ret1 (fn := Try.f70) rfl H rfl ?_
  refine ⟨congrArg (Value.int .i64) ?_, (S.sel [] rfl rfl)⟩; unfold goneI; rw [if_pos hc1]
 try simp only [o1,o2,o3,o4,o5,o6,o7,o8,o9,oa] at hc1
 replace H := H.keep [1, 2, 3] rfl
 refine sS H fun K5 k5=>sf fo_45_2 rfl <| sl S 0 one_3 rfl rfl rfl <| sr 2 rfl <| sg 4 3 21 25 true rfl rfl (fun hg4 => by
     have hq4 := hg4;try simp only [o1,o2,o3,o4,o5,o6,o7,o8,o9,oa] at hq4
     exact sy hg4 <| sr 1 rfl <| sy hg4 <| sf fo_45_5 rfl <| sy hg4 <| sl S 0 one_3 rfl rfl rfl <| sy hg4 <| sc rfl Try.func84 rfl rfl (ref_isOut _ _ _ (by omega)) <| sz 4 rfl rfl rfl) <| sa rfl rfl rfl <| sr 1 rfl <| sE ?_;clear H a;intro a H
 refine k5 _ ?_;clear k5 K5
 refine cond_ H rfl (fun hc2 => ?_) (fun hc2 => ?_)
 ·skip
  try simp only [o1,o2,o3,o4,o5,o6,o7,o8,o9,oa] at hc2
  replace H := H.keep [3] rfl
  refine sS H fun K6 k6=>sf fo_45_6 rfl <| sl S 0 one_3 rfl rfl rfl <| sr 1 rfl <| sE ?_;clear H a;intro a H
  refine k6 _ ?_;clear k6 K6
  refine wp_ret ?_
  refine ret1 (fn := Try.f70) rfl H rfl ?_
  refine ⟨congrArg (Value.int .i64) ?_, (S.sel [] rfl rfl)⟩; unfold goneI bitI; rw [if_neg (by omega), if_pos hc2]
 try simp only [o1,o2,o3,o4,o5,o6,o7,o8,o9,oa] at hc2
 replace H := H.keep [2, 3] rfl
 refine sS H fun K7 k7=>sf fo_45_2 rfl <| sl S 0 one_3 rfl rfl rfl <| sr 2 rfl <| sg 4 3 33 37 true rfl rfl (fun hg4 => by
     have hq4 := hg4;try simp only [o1,o2,o3,o4,o5,o6,o7,o8,o9,oa] at hq4
     exact sy hg4 <| sr 1 rfl <| sy hg4 <| sf fo_45_1 rfl <| sy hg4 <| sl S 0 one_3 rfl rfl rfl <| sy hg4 <| sr 1 rfl <| sz 4 rfl rfl rfl) <| sa rfl rfl rfl <| sr 1 rfl <| sE ?_;clear H a;intro a H
 refine k7 _ ?_;clear k7 K7
 refine cond_ H rfl (fun hc3 => ?_) (fun hc3 => ?_)
 ·skip
  try simp only [o1,o2,o3,o4,o5,o6,o7,o8,o9,oa] at hc3
  replace H := H.keep [] rfl
  refine sS H fun K8 k8=>sr 1 rfl <| sE ?_;clear H a;intro a H
  refine k8 _ ?_;clear k8 K8
  refine wp_ret ?_
  refine ret1 (fn := Try.f70) rfl H rfl ?_
  refine ⟨congrArg (Value.int .i64) ?_, (S.sel [] rfl rfl)⟩; unfold goneI bitI; rw [if_neg (by omega), if_neg (by omega), if_pos hc3]
 try simp only [o1,o2,o3,o4,o5,o6,o7,o8,o9,oa] at hc3
 refine wp_skip ?_
 refine k2 _ _ ?_
 refine sS H fun K9 k9=>sf fo_45_3 rfl <| sl S 0 one_3 rfl rfl rfl <| sr 1 rfl <| sE ?_;clear H a;intro a H
 refine k9 _ ?_;clear k9 K9
 refine wp_ret ?_
 refine ret1 (fn := Try.f70) rfl H rfl ?_
 refine ⟨congrArg (Value.int .i64) ?_, (S.sel [] rfl rfl)⟩; unfold goneI bitI; rw [if_neg (by omega), if_neg (by omega), if_neg (by omega)]

theorem ref_CheckLeave (pl : Int) (ps : List Psg) (PA : Option Addr) (pc : Nat) (xs : List Int) (XA : Option Addr) (xc : Nat) (out : Int) (pe : List Int) (BA : Option Addr) (bc : Nat) (T : Int) (w : World) (hps : InS w noF 7 PA ps.length (pcell ps)) (hpn : ps.length ≤ 9223372036854775807) (hxs : InS w noF 1 XA xs.length (icl xs)) (hxn : xs.length ≤ 9223372036854775807) (hpe : InS w noF 1 BA pe.length (icl pe)) (hpen : pe.length ≤ 9223372036854775807) :
    Calls Try.prog 29 [.agg [.int .i64 pl, .slice PA ps.length pc, .slice XA xs.length xc].toArray, .int .i64 out, .slice BA pe.length bc, .int .i64 T].toArray w (Ret (fun v w' => v = .int .i64 (leaveE pl ps xs out pe T) ∧ St w noF [] w')) := by
 refine enter Try.func29 rfl Try.ntmps29 rfl (fun a H => ?_)
 have S := St.start w
 refine seq_list fun K1 k1 => ?_
 refine list_box H rfl S rfl rfl ?_;clear H a S;intro b4 _ a hb4 hbw4 S H
 refine ls 1 H <| sr 1 rfl <| sE ?_;clear H a;intro a H
 refine k1 _ _ ?_;clear k1 K1
 refine seq_list fun K2 k2 => ?_
 refine ls 1 H <| sd ((does_loadBox agg_25 sz_25 rfl S (i := 0) rfl rfl)) <| sE ?_;clear H a;intro a H
 refine list_call H rfl rfl Try.func20 rfl rfl (ref_Check pl ps PA pc xs XA xc _ (hps.now S) hpn (hxs.now S) hxn) ?_;clear H a
 rintro _ _ a ⟨rfl, S2⟩ H
 replace S := S.call S2;clear S2
 refine ls 1 H <| sr 1 rfl <| sE ?_;clear H a;intro a H
 refine k2 _ _ ?_;clear k2 K2
 refine wp_seq_k fun K3 k3 => ?_
 refine sS H fun K4 k4=>sr 2 rfl <| sE ?_;clear H a;intro a H
 refine k4 _ ?_;clear k4 K4
 refine condN H rfl (fun hc1 => ?_) (fun hc1 => ?_)
 ·skip
  refine sS H fun K5 k5=>sr 2 rfl <| sE ?_;clear H a;intro a H
  refine k5 _ ?_;clear k5 K5
  refine wp_ret ?_
  refine ret1 (fn := Try.f29) rfl H rfl ?_
  refine ⟨?_, (S.sel [] rfl rfl)⟩; unfold leaveE; rw [if_pos hc1]
 refine wp_skip ?_
 refine k3 _ _ ?_
 refine wp_seq_k fun K6 k6 => ?_
 replace H := H.keep [1, 2, 3, 4] rfl
 refine seq_list fun K7 k7 => ?_
 refine ls 1 H <| sr 1 rfl <| sE ?_;clear H a;intro a H
 refine list_call H rfl rfl Try.func63 rfl rfl (ref_set _ _) ?_;clear H a
 rintro _ _ a ⟨rfl, rfl⟩ H
 refine ls 2 H <| sr 2 rfl <| sE ?_;clear H a;intro a H
 apply list_guard (i := 3) (g := 18) (t := 22) (b := false) 4 H S rfl rfl (by kernel_rfl) (by kernel_rfl) rfl rfl
 case h1 =>
  intro hg4
  have hq4 := hg4; try simp only [o1,o2,o3,o4,o5,o6,o7,o8,o9,oa] at hq4
  refine ls 2 H <| sy hg4 <| sd ((does_loadBox agg_25 sz_25 rfl S (i := 0) rfl rfl)) <| sy hg4 <| sr 1 rfl <| sE ?_;intro a H
  refine list_yes' H rfl rfl (by assumption) ?_
  refine list_call H rfl rfl Try.func64 rfl rfl (ref_isPeople pl ps PA pc xs XA xc pe BA bc _ (hpe.now S) hpen) ?_
  rintro _ _ a ⟨rfl, S2⟩ H
  replace S := S.call S2;clear S2
  refine ls 1 H <| sy hg4 <| sr 1 rfl <| sE ?_;intro a H
  exact wpList_nil ⟨H.strip 4 rfl rfl, (S.sel [0] rfl rfl)⟩
 clear H a S;intro a _ H S
 refine ls 6 H <| so rfl rfl rfl <| sr 1 rfl <| sg 3 9 24 27 false rfl rfl (fun hg10 => by
     have hq10 := hg10;try simp only [o1,o2,o3,o4,o5,o6,o7,o8,o9,oa] at hq10
     exact sy hg10 <| sr 1 rfl <| sy hg10 <| sc rfl Try.func56 rfl rfl (ref_from _ _ _ _) <| sy hg10 <| sr 1 rfl <| sz 3 rfl rfl rfl) <| so rfl rfl rfl <| sE ?_;clear H a;intro a H
 refine k7 _ _ ?_;clear k7 K7
 refine cond_ H rfl (fun hc2 => ?_) (fun hc2 => ?_)
 ·skip
  try simp only [o1,o2,o3,o4,o5,o6,o7,o8,o9,oa] at hc2
  replace H := H.keep [] rfl
  refine sS H fun K8 k8=>sr 1 rfl <| sE ?_;clear H a;intro a H
  refine k8 _ ?_;clear k8 K8
  refine wp_ret ?_
  refine ret1 (fn := Try.f29) rfl H rfl ?_
  refine ⟨?_, (S.sel [] rfl rfl)⟩; unfold leaveE; rw [if_neg (by omega), if_neg (by simp only [Bool.and_eq_true, decide_eq_true_eq]; rcases hc2 with (h | h) | h <;> first | (intro h9; omega) | (rw [h]; simp))]
 try simp only [o1,o2,o3,o4,o5,o6,o7,o8,o9,oa] at hc2
 refine wp_skip ?_
 refine k6 _ _ ?_
 refine sS H fun K9 k9=>sr 1 rfl <| sE ?_;clear H a;intro a H
 refine k9 _ ?_;clear k9 K9
 refine wp_ret ?_
 refine ret1 (fn := Try.f29) rfl H rfl ?_
 refine ⟨?_, (S.sel [] rfl rfl)⟩; unfold leaveE; rw [if_neg (by omega), if_pos (by simp only [Bool.and_eq_true, decide_eq_true_eq]; exact ⟨⟨by omega, hc2.1.2⟩, by omega⟩)]

set_option maxHeartbeats 16000000 in
theorem ref_leave (P T : Nat) (ps : List Psg) (PA : Option Addr) (pc : Nat) (xs : List Int) (XA : Option Addr) (xc : Nat) (out : Int) (pe : List Int) (BA : Option Addr) (bc : Nat) (w : World) (hps : InS w noF 7 PA ps.length (pcell ps)) (hpn : ps.length ≤ 9223372036854775807) (hxs : InS w noF 1 XA xs.length (icl xs)) (hxn : xs.length ≤ 9223372036854775807) (hpe : InS w noF 1 BA pe.length (icl pe)) (hpl : pe.length = P) (hV : StV P ps xs) (hou : 0 ≤ out ∧ out ≤ 4095) (hpp : ∀ k, k < pe.length → 0 ≤ pe.getD k 0 ∧ pe.getD k 0 ≤ 1000) (hT : T ≤ 60) :
    Calls Try.prog 72 [.agg [.int .i64 (P : Int), .slice PA ps.length pc, .slice XA xs.length xc].toArray, .int .i64 out, .slice BA pe.length bc, .int .i64 (T : Int)].toArray w (Ret (fun u w' => ∃ b28 EA ec AA A' c' r v L, u = .pointer (some ⟨b28, 0, none⟩) ∧ EndR P T pe xs out ps v (rmE (egs (jrAll P T pe xs out ps)) r) L ∧ St w noF [boxM b28 124 [.int .i64 (P : Int), .slice PA ps.length pc, .slice XA xs.length xc, .int .i64 (T : Int), .slice EA (egs (jrAll P T pe xs out ps)).length ec, .slice AA ((P * (T + 1) + 2)) ((P * (T + 1) + 2)), .int .i64 (v)], ownM 144 5 EA (egs (jrAll P T pe xs out ps)).length ec (egc (egs (jrAll P T pe xs out ps)) (r)), ownM 23 1 AA ((P * (T + 1) + 2)) ((P * (T + 1) + 2)) (hdc A' (fun z9 => ((ixs (egs (jrAll P T pe xs out ps))) z9).length) c'), ragM 3 1 (fun q => q < (P * (T + 1) + 2)) A' (fun z9 => ((ixs (egs (jrAll P T pe xs out ps))) z9).length) c' (fun z9 => wcl ((ixs (egs (jrAll P T pe xs out ps))) z9))] w')) := by
 have hP10 := hV.size
 have hC : P * (T + 1) ≤ 10 * 61 := Nat.mul_le_mul (by omega) (by omega)
 have hC2 : ((P * (T + 1) : Nat) : Int) = (P : Int) * ((T : Int) + 1) := by rw [Int.natCast_mul]; rfl
 have hOR := lay_R (T := T) (out := out) hV hpp
 refine enter Try.func72 rfl Try.ntmps72 rfl (fun a H => ?_)
 have S := St.start w
 refine seq_list fun K1 k1 => ?_
 refine list_box H rfl S rfl rfl ?_;clear H a S;intro b4 _ a hb4 hbw4 S H
 refine ls 1 H <| sr 1 rfl <| sE ?_;clear H a;intro a H
 refine k1 _ _ ?_;clear k1 K1
 refine seq_list fun K2 k2 => ?_
 refine ls 3 H <| sd ((does_loadBox agg_25 sz_25 rfl S (i := 0) rfl rfl)) <| sr 1 rfl <| sd (does_build bt_124 rfl rfl) <| sE ?_;clear H a;intro a H
 refine list_box H rfl S rfl rfl ?_;clear H a S;intro b28 _ a hb28 hbw28 S H
 refine ls 1 H <| sr 1 rfl <| sE ?_;clear H a;intro a H
 refine k2 _ _ ?_;clear k2 K2
 replace H := H.keep [1, 2, 3, 4, 9] rfl
 refine seq_list fun K3 k3 => ?_
 refine ls 7 H <| sr 1 rfl <| sf fo_25_0 rfl <| sl S 1 one_3 rfl rfl rfl <| sr 1 rfl <| sd (does_add rfl rfl (by unfold i64ok; omega)) <| sd ((does_mul rfl rfl (by rw [← hC2]; unfold i64ok; omega)).to (v' := .int .i64 ((P * (T + 1) : Nat) : Int)) (by rw [hC2])) <| sd ((does_add rfl rfl (by unfold i64ok; omega)).to (v' := .int .i64 ((P * (T + 1) + 2 : Nat) : Int)) rfl) <| sE ?_;clear H a;intro a H
 refine list_make (n := P * (T + 1) + 2) H rfl S sl_122 sz_23 ze_23 by_23 rfl (by decide) rfl rfl (by omega) (by omega) ?_;clear H a S;intro A1 _ a hA1 S H
 replace S := S.recell (i := 0) rfl (cell' := hdc (fun _ => none) (fun i => (ixs (egs []) i).length) (fun _ => 0)) (fun k j _ hj => mk_hdc0 k j hj)
 obtain ⟨AA, rfl⟩ : ∃ y, y = A1 := ⟨_, rfl⟩
 refine ls 2 H <| sr 1 rfl <| sf fo_124_3 rfl <| sE ?_;clear H a;intro a H
 refine list_store H S (i := 1) rfl rfl rfl rfl sz_122 rfl rfl ?_
 clear H a S;intro _ a S H
 refine k3 _ _ ?_;clear k3 K3
 replace H := H.keep [1, 2, 3, 4, 9] rfl
 refine seq_list fun K4 k4 => ?_
 refine ls 1 H <| sr 1 rfl <| sE ?_;clear H a;intro a H
 have S1 := (S.sel [1] rfl rfl)
 refine list_call H rfl rfl Try.func89 rfl rfl (ref_begin (egs []) b28 P T _ _ none 0 (P * (T + 1) + 2) AA (fun _ => none) (fun _ => 0) 0 _ _ S1.startR (by omega) (by omega)) ?_;clear H a
 rintro _ _ a ⟨rfl, S2⟩ H
 replace S := (S.sel [1, 0, 2] rfl rfl).callR (M := [_]) S2; clear S1 S2
 refine ls 1 H <| sr 1 rfl <| sE ?_;clear H a;intro a H
 refine k4 _ _ ?_;clear k4 K4
 refine sS H fun K5 k5=>sr 1 rfl <| sd ((does_add rfl rfl (by unfold i64ok; omega)).to (v' := .int .i64 ((P * (T + 1) + 1 : Nat) : Int)) rfl) <| sr 1 rfl <| sE ?_;clear H a;intro a H
 refine k5 _ ?_;clear k5 K5
 refine wp_seq_k fun K6 k6 => ?_
 refine sS H fun K7 k7=>sr 1 rfl <| sE ?_;clear H a;intro a H
 refine k7 _ ?_;clear k7 K7
 refine wp_block ?_
 replace S := S.newNil 144 5 (egc (egs []) (egr []))
 replace S := ragM.zero S 3 1 (fun q => q < (P * (T + 1) + 2)) (fun i => wcl (ixs (egs []) i))
 refine loop_st (X := Nat × Option Addr × Nat × (Nat → Option Addr) × (Nat → Nat)) (R0 := _) [1, 2, 3, 4, 9, 10, 11] H rfl (fun ⟨p, EA, ec, A', c'⟩ => [(12, .int .i64 (p : Int))]) (fun ⟨p, EA, ec, A', c'⟩ => [boxM b28 124 [.int .i64 (P : Int), .slice PA ps.length pc, .slice XA xs.length xc, .int .i64 (T : Int), .slice EA (egs (jrPlaces P T pe xs p)).length ec, .slice AA ((P * (T + 1) + 2)) ((P * (T + 1) + 2)), .int .i64 (0)], ownM 144 5 EA (egs (jrPlaces P T pe xs p)).length ec (egc (egs (jrPlaces P T pe xs p)) (egr (jrPlaces P T pe xs p))), ownM 23 1 AA ((P * (T + 1) + 2)) ((P * (T + 1) + 2)) (hdc A' (fun z9 => ((ixs (egs (jrPlaces P T pe xs p))) z9).length) c'), ragM 3 1 (fun q => q < (P * (T + 1) + 2)) A' (fun z9 => ((ixs (egs (jrPlaces P T pe xs p))) z9).length) c' (fun z9 => wcl ((ixs (egs (jrPlaces P T pe xs p))) z9))]) (fun g ⟨p, EA, ec, A', c'⟩ => p ≤ P ∧ g + p = P) (P) (0, none, 0, fun _ => none, fun _ => 0) ?_ (S.sel [2, 1, 3, 0, 4] rfl rfl) (H.keep [12, 1, 2, 3, 4, 9, 10, 11] rfl) ?_
 · exact ⟨by omega, by omega⟩
 clear H S a
 intro g1 x1 a w1 hp S H K8 k8
 obtain ⟨p, EA, ec, A', c'⟩ := x1
 dsimp only at hp S H
 refine wp_seq_k fun K9 k9 => ?_
 refine sS H fun K10 k10=>sr 1 rfl <| sf fo_25_0 rfl <| sl S 4 one_3 rfl rfl rfl <| sr 1 rfl <| sE ?_;clear H a;intro a H
 refine k10 _ ?_;clear k10 K10
 refine condL H rfl (fun hc1 => ?_) (fun hc1 => ?_)
 ·skip
  refine wp_skip ?_
  refine k9 _ _ ?_
  refine wp_seq_k fun K11 k11 => ?_
  refine wp_block ?_
  have hpP : p < P := by omega
  have hn0 := ndR_lt (P := P) (T := T) (t := 0) hpP (by omega)
  have hb1 : p * (T + 2) ≤ 10 * 62 := Nat.mul_le_mul (by omega) (by omega)
  have hl1 := jrPlaces_len (P := P) (T := T) (pe := pe) (xs := xs) p
  have hJl : (jrPlaces P T pe xs p).length ≤ 100000 := by omega
  replace H := H.keep [1, 2, 3, 4, 9, 10, 11, 12] rfl
  replace S := S.drew
  refine seq_wq [(0, true), (1, true), (2, true), (3, true), (5, true), (6, true), (7, true), (8, true), (4, false), (9, false)] (by kernel_rfl) (by kernel_rfl) (S.sel [4] rfl rfl) fun K12 k12 => ?_
  refine qF H <| qr 6 rfl <| qd rfl (fun _ S => does_indexN sl_23 sz_3 rfl rfl (hpe.adr (by omega)) (by omega)) <| qd rfl (fun _ S => does_load one_3 rfl (hpe.rd S (by omega) (by omega))) <| qK ?_;clear H a;intro a H
  refine wq_eff rfl ?_
  refine list_call H rfl rfl Try.func74 rfl rfl (ref_node (egs (jrPlaces P T pe xs p)) b28 P T _ _ EA ec (P * (T + 1) + 2) AA A' c' 0 p 0 _ _ ((S.sel [0] rfl rfl).startR) (by omega) (by omega) (by omega)) ?_;clear H a
  rintro _ _ a ⟨rfl, rfl⟩ H
  refine wpList_nil (And.intro (S.sel [4] rfl rfl) ?_)
  refine wq_eff rfl ?_
  have S1 := (S.sel [0, 1, 2, 3] rfl rfl)
  refine list_call H rfl rfl Try.func90 rfl rfl (ref_add (jrPlaces P T pe xs p) b28 P T _ _ EA ec (P * (T + 1) + 2) AA A' c' 0 (P * (T + 1)) (ndR T p 0) (pe.getD p 0) (-1) 0 _ _ S1.startR (by omega) (by omega) (by omega) hJl (fun i _ => Nat.le_trans ixs_le (by omega))) ?_;clear H a
  rintro _ _ a ⟨rfl, EA2, ec2, A2, c2, S2⟩ H
  replace S := (S.sel [0, 1, 2, 3, 4] rfl rfl).callR (M := [_, _, _, _]) S2; clear S1 S2
  rw [jt_beg (xs := xs)] at S
  refine wpList_nil (And.intro (S.sel [4] rfl rfl) ?_)
  refine wq_nil ?_
  refine k12 _ _ ?_
  clear k12 K12
  replace H := H.keep [1, 2, 3, 4, 9, 10, 11, 12] rfl
  refine sS H fun K13 k13=>sr 1 rfl <| sE ?_;clear H a;intro a H
  refine k13 _ ?_;clear k13 K13
  refine wp_block ?_
  refine loop_st (X := Nat × Option Addr × Nat × (Nat → Option Addr) × (Nat → Nat)) (R0 := _) [1, 2, 3, 4, 9, 10, 11, 12] H rfl (fun ⟨t, EA, ec, A', c'⟩ => [(13, .int .i64 (t : Int))]) (fun ⟨t, EA, ec, A', c'⟩ => [boxM b28 124 [.int .i64 (P : Int), .slice PA ps.length pc, .slice XA xs.length xc, .int .i64 (T : Int), .slice EA (egs (jrPlaces P T pe xs p ++ (jrBeg P T pe p :: jrTicks P T xs p t))).length ec, .slice AA ((P * (T + 1) + 2)) ((P * (T + 1) + 2)), .int .i64 (0)], ownM 144 5 EA (egs (jrPlaces P T pe xs p ++ (jrBeg P T pe p :: jrTicks P T xs p t))).length ec (egc (egs (jrPlaces P T pe xs p ++ (jrBeg P T pe p :: jrTicks P T xs p t))) (egr (jrPlaces P T pe xs p ++ (jrBeg P T pe p :: jrTicks P T xs p t)))), ownM 23 1 AA ((P * (T + 1) + 2)) ((P * (T + 1) + 2)) (hdc A' (fun z9 => ((ixs (egs (jrPlaces P T pe xs p ++ (jrBeg P T pe p :: jrTicks P T xs p t)))) z9).length) c'), ragM 3 1 (fun q => q < (P * (T + 1) + 2)) A' (fun z9 => ((ixs (egs (jrPlaces P T pe xs p ++ (jrBeg P T pe p :: jrTicks P T xs p t)))) z9).length) c' (fun z9 => wcl ((ixs (egs (jrPlaces P T pe xs p ++ (jrBeg P T pe p :: jrTicks P T xs p t)))) z9))]) (fun g ⟨t, EA, ec, A', c'⟩ => t ≤ T + 1 ∧ g + t = T + 1) (T + 1) (0, _, _, _, _) ?_ (S.sel [0, 1, 2, 3, 4] rfl rfl) (H.keep [13, 1, 2, 3, 4, 9, 10, 11, 12] rfl) ?_
  · exact ⟨by omega, by omega⟩
  clear H S a
  intro g2 x2 a w2 hp S H K14 k14
  obtain ⟨t, EA, ec, A', c'⟩ := x2
  dsimp only at hp S H
  refine wp_seq_k fun K15 k15 => ?_
  refine sS H fun K16 k16=>sr 3 rfl <| sE ?_;clear H a;intro a H
  refine k16 _ ?_;clear k16 K16
  refine condG H rfl (fun hc2 => ?_) (fun hc2 => ?_)
  ·skip
   refine wp_skip ?_
   refine k15 _ _ ?_
   refine wp_seq_k fun K17 k17 => ?_
   refine wp_block ?_
   have hnt := ndR_lt (P := P) (T := T) (t := t) hpP (by omega)
   have hl2 := jrTicks_len (P := P) (T := T) (xs := xs) (p := p) t
   have hJl : ((jrPlaces P T pe xs p ++ (jrBeg P T pe p :: jrTicks P T xs p t))).length ≤ 100000 := by rw [List.length_append, List.length_cons]; omega
   refine seq_list fun K18 k18 => ?_
   refine ls 3 H <| sf fo_25_2 rfl <| sl S 4 one_23 rfl rfl rfl <| sr 1 rfl <| sE ?_;clear H a;intro a H
   refine list_call H rfl rfl Try.func57 rfl rfl (ref_has xs XA xc _ _ (hxs.now S) hxn) ?_;clear H a
   rintro _ _ a ⟨rfl, S2⟩ H
   replace S := S.call S2;clear S2
   refine k18 _ _ ?_;clear k18 K18
   refine cond_ H rfl (fun hc3 => ?_) (fun hc3 => ?_)
   ·skip
    try simp only [o1,o2,o3,o4,o5,o6,o7,o8,o9,oa] at hc3
    replace H := H.keep [1, 2, 3, 4, 9, 10, 11, 12, 13] rfl
    refine one_list ?_
    refine ls 4 H <| sr 4 rfl <| sE ?_;clear H a;intro a H
    refine list_call H rfl rfl Try.func74 rfl rfl (ref_node (egs (jrPlaces P T pe xs p ++ (jrBeg P T pe p :: jrTicks P T xs p t))) b28 P T _ _ EA ec (P * (T + 1) + 2) AA A' c' 0 p t _ _ ((S.sel [0] rfl rfl).startR) (by omega) (by omega) (by omega)) ?_;clear H a
    rintro _ _ a ⟨rfl, rfl⟩ H
    refine ls 1 H <| sr 1 rfl <| sE ?_;clear H a;intro a H
    have S1 := (S.sel [0, 1, 2, 3] rfl rfl)
    refine list_call H rfl rfl Try.func90 rfl rfl (ref_add (jrPlaces P T pe xs p ++ (jrBeg P T pe p :: jrTicks P T xs p t)) b28 P T _ _ EA ec (P * (T + 1) + 2) AA A' c' 0 (ndR T p t) (P * (T + 1) + 1) 1073741824 (-1) 0 _ _ S1.startR (by omega) (by omega) (by omega) hJl (fun i _ => Nat.le_trans ixs_le (by omega))) ?_;clear H a
    rintro _ _ a ⟨rfl, EA2, ec2, A2, c2, S2⟩ H
    replace S := (S.sel [0, 1, 2, 3, 4] rfl rfl).callR (M := [_, _, _, _]) S2; clear S1 S2
    rw [jt_exit hc3] at S
    refine k17 _ _ ?_
    replace H := H.keep [1, 2, 3, 4, 9, 10, 11, 12, 13] rfl
    refine sO H <| sr 1 rfl <| sd (does_add rfl rfl (by unfold i64ok; omega)) <| sr 1 rfl <| sE ?_;clear H a;intro a H
    exact k14 (g2 - 1) (t + 1, _, _, _, _) a _ (by omega) (⟨by omega, by omega⟩) (S.sel [0, 1, 2, 3, 4] rfl rfl) (H.keep [13, 1, 2, 3, 4, 9, 10, 11, 12] rfl)
   try simp only [o1,o2,o3,o4,o5,o6,o7,o8,o9,oa] at hc3
   refine sS H fun K21 k21=>sr 3 rfl <| sE ?_;clear H a;intro a H
   refine k21 _ ?_;clear k21 K21
   refine condL H rfl (fun hc4 => ?_) (fun hc4 => ?_)
   ·skip
    skip
    replace H := H.keep [1, 2, 3, 4, 9, 10, 11, 12, 13] rfl
    refine one_list ?_
    refine ls 4 H <| sr 4 rfl <| sE ?_;clear H a;intro a H
    refine list_call H rfl rfl Try.func74 rfl rfl (ref_node (egs (jrPlaces P T pe xs p ++ (jrBeg P T pe p :: jrTicks P T xs p t))) b28 P T _ _ EA ec (P * (T + 1) + 2) AA A' c' 0 p t _ _ ((S.sel [0] rfl rfl).startR) (by omega) (by omega) (by omega)) ?_;clear H a
    rintro _ _ a ⟨rfl, rfl⟩ H
    refine ls 4 H <| sr 3 rfl <| sd (does_add rfl rfl (by unfold i64ok; omega)) <| sE ?_;clear H a;intro a H
    refine list_call H rfl rfl Try.func74 rfl rfl (ref_node (egs (jrPlaces P T pe xs p ++ (jrBeg P T pe p :: jrTicks P T xs p t))) b28 P T _ _ EA ec (P * (T + 1) + 2) AA A' c' 0 p (t + 1) _ _ ((S.sel [0] rfl rfl).startR) (by omega) (by omega) (by omega)) ?_;clear H a
    rintro _ _ a ⟨rfl, rfl⟩ H
    have S1 := (S.sel [0, 1, 2, 3] rfl rfl)
    refine list_call H rfl rfl Try.func90 rfl rfl (ref_add (jrPlaces P T pe xs p ++ (jrBeg P T pe p :: jrTicks P T xs p t)) b28 P T _ _ EA ec (P * (T + 1) + 2) AA A' c' 0 (ndR T p t) (ndR T p (t + 1)) 1073741824 (-1) 0 _ _ S1.startR (by omega) (by have := ndR_lt (P := P) (T := T) (t := t + 1) hpP (by omega); omega) (ndR_ne (by omega) (by omega) (by omega)) hJl (fun i _ => Nat.le_trans ixs_le (by omega))) ?_;clear H a
    rintro _ _ a ⟨rfl, EA2, ec2, A2, c2, S2⟩ H
    replace S := (S.sel [0, 1, 2, 3, 4] rfl rfl).callR (M := [_, _, _, _]) S2; clear S1 S2
    rw [jt_wait hc3 (by omega)] at S
    refine k17 _ _ ?_
    replace H := H.keep [1, 2, 3, 4, 9, 10, 11, 12, 13] rfl
    refine sO H <| sr 1 rfl <| sd (does_add rfl rfl (by unfold i64ok; omega)) <| sr 1 rfl <| sE ?_;clear H a;intro a H
    exact k14 (g2 - 1) (t + 1, _, _, _, _) a _ (by omega) (⟨by omega, by omega⟩) (S.sel [0, 1, 2, 3, 4] rfl rfl) (H.keep [13, 1, 2, 3, 4, 9, 10, 11, 12] rfl)
   have hJ9 := jt_none (P := P) (b := jrBeg P T pe p) (A := jrPlaces P T pe xs p) hc3 (by omega : ¬ t < T)
   rw [hJ9] at S
   refine wp_skip ?_
   refine k17 _ _ ?_
   refine sO H <| sr 1 rfl <| sd (does_add rfl rfl (by unfold i64ok; omega)) <| sr 1 rfl <| sE ?_;clear H a;intro a H
   exact k14 (g2 - 1) (t + 1, _, _, _, _) a _ (by omega) (⟨by omega, by omega⟩) (S.sel [0, 1, 2, 3, 4] rfl rfl) (H.keep [13, 1, 2, 3, 4, 9, 10, 11, 12] rfl)
  refine wp_exit ?_
  refine k11 _ _ ?_
  refine sO H <| sr 1 rfl <| sd (does_add rfl rfl (by unfold i64ok; omega)) <| sr 1 rfl <| sE ?_;clear H a;intro a H
  rw [show t = T + 1 by omega, jt_place] at S
  exact k8 (g1 - 1) (p + 1, _, _, _, _) a _ (by omega) (⟨by omega, by omega⟩) (S.sel [0, 1, 2, 3, 4] rfl rfl) (H.keep [12, 1, 2, 3, 4, 9, 10, 11] rfl)
 refine wp_exit ?_
 refine k6 _ _ ?_
 refine wp_seq_k fun K26 k26 => ?_
 replace H := H.keep [1, 3, 4, 9, 10, 11] rfl
 refine sS H fun K27 k27=>sr 1 rfl <| sE ?_;clear H a;intro a H
 refine k27 _ ?_;clear k27 K27
 refine wp_block ?_
 rw [show p = P by omega, show jrPlaces P T pe xs P = (jrPlaces P T pe xs P ++ jrHeads T xs out ps 0) from (List.append_nil _).symm] at S
 refine loop_st (X := Nat × Option Addr × Nat × (Nat → Option Addr) × (Nat → Nat)) (R0 := _) [1, 3, 4, 9, 10, 11] H rfl (fun ⟨t, EA, ec, A', c'⟩ => [(14, .int .i64 (t : Int))]) (fun ⟨t, EA, ec, A', c'⟩ => [boxM b28 124 [.int .i64 (P : Int), .slice PA ps.length pc, .slice XA xs.length xc, .int .i64 (T : Int), .slice EA (egs (jrPlaces P T pe xs P ++ jrHeads T xs out ps t)).length ec, .slice AA ((P * (T + 1) + 2)) ((P * (T + 1) + 2)), .int .i64 (0)], ownM 144 5 EA (egs (jrPlaces P T pe xs P ++ jrHeads T xs out ps t)).length ec (egc (egs (jrPlaces P T pe xs P ++ jrHeads T xs out ps t)) (egr (jrPlaces P T pe xs P ++ jrHeads T xs out ps t))), ownM 23 1 AA ((P * (T + 1) + 2)) ((P * (T + 1) + 2)) (hdc A' (fun z9 => ((ixs (egs (jrPlaces P T pe xs P ++ jrHeads T xs out ps t))) z9).length) c'), ragM 3 1 (fun q => q < (P * (T + 1) + 2)) A' (fun z9 => ((ixs (egs (jrPlaces P T pe xs P ++ jrHeads T xs out ps t))) z9).length) c' (fun z9 => wcl ((ixs (egs (jrPlaces P T pe xs P ++ jrHeads T xs out ps t))) z9))]) (fun g ⟨t, EA, ec, A', c'⟩ => t ≤ T + 1 ∧ g + t = T + 1) (T + 1) (0, _, _, _, _) ?_ (S.sel [0, 1, 2, 3, 4] rfl rfl) (H.keep [14, 1, 3, 4, 9, 10, 11] rfl) ?_
 · exact ⟨by omega, by omega⟩
 clear H S a
 intro g3 x3 a w3 hp S H K28 k28
 obtain ⟨t, EA, ec, A', c'⟩ := x3
 dsimp only at hp S H
 refine wp_seq_k fun K29 k29 => ?_
 refine sS H fun K30 k30=>sr 3 rfl <| sE ?_;clear H a;intro a H
 refine k30 _ ?_;clear k30 K30
 refine condG H rfl (fun hc5 => ?_) (fun hc5 => ?_)
 ·skip
  refine wp_skip ?_
  refine k29 _ _ ?_
  refine wp_seq_k fun K31 k31 => ?_
  refine wp_block ?_
  refine sS H fun K32 k32=>sr 1 rfl <| sE ?_;clear H a;intro a H
  refine k32 _ ?_;clear k32 K32
  refine wp_block ?_
  rw [show (jrPlaces P T pe xs P ++ jrHeads T xs out ps t) = (jrPlaces P T pe xs P ++ (jrHeads T xs out ps t ++ jrPsgs T xs out ps t 0)) by simp [jrPsgs]] at S
  refine loop_st (X := Nat × Option Addr × Nat × (Nat → Option Addr) × (Nat → Nat)) (R0 := _) [1, 3, 4, 9, 10, 11, 14] H rfl (fun ⟨i, EA, ec, A', c'⟩ => [(15, .int .i64 (i : Int))]) (fun ⟨i, EA, ec, A', c'⟩ => [boxM b28 124 [.int .i64 (P : Int), .slice PA ps.length pc, .slice XA xs.length xc, .int .i64 (T : Int), .slice EA (egs (jrPlaces P T pe xs P ++ (jrHeads T xs out ps t ++ jrPsgs T xs out ps t i))).length ec, .slice AA ((P * (T + 1) + 2)) ((P * (T + 1) + 2)), .int .i64 (0)], ownM 144 5 EA (egs (jrPlaces P T pe xs P ++ (jrHeads T xs out ps t ++ jrPsgs T xs out ps t i))).length ec (egc (egs (jrPlaces P T pe xs P ++ (jrHeads T xs out ps t ++ jrPsgs T xs out ps t i))) (egr (jrPlaces P T pe xs P ++ (jrHeads T xs out ps t ++ jrPsgs T xs out ps t i)))), ownM 23 1 AA ((P * (T + 1) + 2)) ((P * (T + 1) + 2)) (hdc A' (fun z9 => ((ixs (egs (jrPlaces P T pe xs P ++ (jrHeads T xs out ps t ++ jrPsgs T xs out ps t i)))) z9).length) c'), ragM 3 1 (fun q => q < (P * (T + 1) + 2)) A' (fun z9 => ((ixs (egs (jrPlaces P T pe xs P ++ (jrHeads T xs out ps t ++ jrPsgs T xs out ps t i)))) z9).length) c' (fun z9 => wcl ((ixs (egs (jrPlaces P T pe xs P ++ (jrHeads T xs out ps t ++ jrPsgs T xs out ps t i)))) z9))]) (fun g ⟨i, EA, ec, A', c'⟩ => i ≤ ps.length ∧ g + i = ps.length) (ps.length) (0, _, _, _, _) ?_ (S.sel [0, 1, 2, 3, 4] rfl rfl) (H.keep [15, 1, 3, 4, 9, 10, 11, 14] rfl) ?_
  · exact ⟨by omega, by omega⟩
  clear H S a
  intro g4 x4 a w4 hp S H K33 k33
  obtain ⟨i, EA, ec, A', c'⟩ := x4
  dsimp only at hp S H
  refine wp_seq_k fun K34 k34 => ?_
  refine sS H fun K35 k35=>sr 1 rfl <| sf fo_25_1 rfl <| sl S 4 one_22 rfl rfl rfl <| sL sl_22 rfl <| sr 1 rfl <| sE ?_;clear H a;intro a H
  refine k35 _ ?_;clear k35 K35
  refine condL H rfl (fun hc6 => ?_) (fun hc6 => ?_)
  ·skip
   refine wp_skip ?_
   refine k34 _ _ ?_
   refine wp_seq_k fun K36 k36 => ?_
   refine wp_block ?_
   replace H := H.keep [1, 3, 4, 9, 10, 11, 14, 15] rfl
   refine seq_list fun K37 k37 => ?_
   refine ls 5 H <| sf fo_25_1 rfl <| sl S 4 one_22 rfl rfl rfl <| sr 1 rfl <| si sl_22 sz_45 rfl rfl (hps.adr (by omega)) (by omega) <| sd ((does_loadIn agg_45 sz_45 rfl S hps (by omega) (by omega))) <| sE ?_;clear H a;intro a H
   refine list_alloc H rfl S ze_45 ?_;clear H a S;intro b16 _ a hb16 hbw16 S H
   refine list_store H S (i := 0) rfl rfl rfl rfl sz_45 rfl rfl ?_
   clear H a S;intro _ a S H
   refine k37 _ _ ?_;clear k37 K37
   replace H := H.keep [1, 3, 4, 9, 10, 11, 14, 15, 16] rfl
   refine seq_list fun K38 k38 => ?_
   refine ls 4 H <| sf fo_45_0 rfl <| sl S 0 one_3 rfl rfl rfl <| sf fo_45_1 rfl <| sl S 0 one_3 rfl rfl rfl <| sE ?_;clear H a;intro a H
   refine list_build' H rfl S sl_23 sz_3 ze_3 rfl rfl rfl rfl rfl rfl rfl rfl rfl ?_;clear H a S;intro A2 _ a hA2 S H
   replace S := S.recell (i := 0) rfl (cell' := ecl (ps.getD i Psg.zero)) (fun k j hk hj => ecl_two k j hk hj)
   refine ls 1 H <| sr 1 rfl <| sE ?_;clear H a;intro a H
   refine k38 _ _ ?_;clear k38 K38
   refine sS H fun K39 k39=>sr 1 rfl <| sE ?_;clear H a;intro a H
   refine k39 _ ?_;clear k39 K39
   refine wp_block ?_
   rw [show (jrPlaces P T pe xs P ++ (jrHeads T xs out ps t ++ jrPsgs T xs out ps t i)) = ((jrPlaces P T pe xs P ++ (jrHeads T xs out ps t ++ jrPsgs T xs out ps t i)) ++ jrKs T xs out (ps.getD i Psg.zero) i t 0) from (List.append_nil _).symm] at S
   refine loop_st (X := Nat × Option Addr × Nat × (Nat → Option Addr) × (Nat → Nat)) (R0 := _) [1, 3, 4, 9, 10, 11, 14, 15, 16, 17] H rfl (fun ⟨k, EA, ec, A', c'⟩ => [(18, .int .i64 (k : Int))]) (fun ⟨k, EA, ec, A', c'⟩ => [boxM b28 124 [.int .i64 (P : Int), .slice PA ps.length pc, .slice XA xs.length xc, .int .i64 (T : Int), .slice EA (egs ((jrPlaces P T pe xs P ++ (jrHeads T xs out ps t ++ jrPsgs T xs out ps t i)) ++ jrKs T xs out (ps.getD i Psg.zero) i t k)).length ec, .slice AA ((P * (T + 1) + 2)) ((P * (T + 1) + 2)), .int .i64 (0)], ownM 144 5 EA (egs ((jrPlaces P T pe xs P ++ (jrHeads T xs out ps t ++ jrPsgs T xs out ps t i)) ++ jrKs T xs out (ps.getD i Psg.zero) i t k)).length ec (egc (egs ((jrPlaces P T pe xs P ++ (jrHeads T xs out ps t ++ jrPsgs T xs out ps t i)) ++ jrKs T xs out (ps.getD i Psg.zero) i t k)) (egr ((jrPlaces P T pe xs P ++ (jrHeads T xs out ps t ++ jrPsgs T xs out ps t i)) ++ jrKs T xs out (ps.getD i Psg.zero) i t k))), ownM 23 1 AA ((P * (T + 1) + 2)) ((P * (T + 1) + 2)) (hdc A' (fun z9 => ((ixs (egs ((jrPlaces P T pe xs P ++ (jrHeads T xs out ps t ++ jrPsgs T xs out ps t i)) ++ jrKs T xs out (ps.getD i Psg.zero) i t k))) z9).length) c'), ragM 3 1 (fun q => q < (P * (T + 1) + 2)) A' (fun z9 => ((ixs (egs ((jrPlaces P T pe xs P ++ (jrHeads T xs out ps t ++ jrPsgs T xs out ps t i)) ++ jrKs T xs out (ps.getD i Psg.zero) i t k))) z9).length) c' (fun z9 => wcl ((ixs (egs ((jrPlaces P T pe xs P ++ (jrHeads T xs out ps t ++ jrPsgs T xs out ps t i)) ++ jrKs T xs out (ps.getD i Psg.zero) i t k))) z9))]) (fun g ⟨k, EA, ec, A', c'⟩ => k ≤ 2 ∧ g + k = 2) (2) (0, _, _, _, _) ?_ (S.sel [2, 3, 4, 5, 0, 1, 6] rfl rfl) (H.keep [18, 1, 3, 4, 9, 10, 11, 14, 15, 16, 17] rfl) ?_
   · exact ⟨by omega, by omega⟩
   clear H S a
   intro g5 x5 a w5 hp S H K40 k40
   obtain ⟨k, EA, ec, A', c'⟩ := x5
   dsimp only at hp S H
   refine wp_seq_k fun K41 k41 => ?_
   refine sS H fun K42 k42=>sr 2 rfl <| sE ?_;clear H a;intro a H
   refine k42 _ ?_;clear k42 K42
   refine condL H rfl (fun hc7 => ?_) (fun hc7 => ?_)
   ·skip
    refine wp_skip ?_
    refine k41 _ _ ?_
    refine wp_seq_k fun K43 k43 => ?_
    refine wp_block ?_
    have hpi := psgOk_iff.1 (hV.pas i (by omega))
    have he0 : 0 ≤ endI (ps.getD i Psg.zero) k ∧ endI (ps.getD i Psg.zero) k < P := by unfold endI; split <;> omega
    have he1 : 0 ≤ endI (ps.getD i Psg.zero) (1 - k) ∧ endI (ps.getD i Psg.zero) (1 - k) < P := by unfold endI; split <;> omega
    have hgb := gone_bd (out := out) hV (show i < ps.length by omega) k
    replace H := H.keep [1, 3, 4, 9, 10, 11, 14, 15, 16, 17, 18] rfl
    replace S := S.drew
    refine seq_wq [(0, true), (1, true), (2, true), (3, true), (4, true), (5, true), (6, false), (7, true)] (by kernel_rfl) (by kernel_rfl) (S.sel [0, 1, 2, 3, 4, 5, 6] rfl rfl) fun K44 k44 => ?_
    refine qF H <| qd rfl (fun _ S => (does_loadBox agg_45 sz_45 rfl S (i := 5) rfl rfl)) <| qr 3 rfl <| qd rfl (fun _ S => does_indexN sl_23 sz_3 rfl rfl (ownM.adr S (i := 4) rfl (by omega)) (by omega)) <| qd rfl (fun _ S => does_load one_3 rfl (ownM.rd S (i := 4) rfl (by omega) (by omega))) <| qK ?_;clear H a;intro a H
    refine wq_eff rfl ?_
    refine list_call H rfl rfl Try.func70 rfl rfl (ref_Gone (ps.getD i Psg.zero) out (endI (ps.getD i Psg.zero) k) _ (fun h3 => by have := psgOk_iff.1 (hV.pas i (by omega)); omega)) ?_;clear H a
    rintro _ _ a ⟨rfl, S2⟩ H
    replace S := S.call S2;clear S2
    refine wpList_nil (And.intro (S.sel [0, 1, 2, 3, 4, 5, 6] rfl rfl) ?_)
    refine qF H <| qr 1 rfl <| qK ?_;clear H a;intro a H
    refine wq_nil ?_
    refine k44 _ _ ?_
    clear k44 K44
    rcases go3 (goneI out (ps.getD i Psg.zero) (endI (ps.getD i Psg.zero) k)) (T : Int) (t : Int) with hB | hB | hB
    ·skip
     replace H := H.keep [1, 3, 4, 9, 10, 11, 14, 15, 16, 17, 18, 19] rfl
     replace S := S.drew
     refine seq_wq [(0, true), (1, true), (2, true), (3, true), (4, true), (5, true), (6, true), (7, true), (8, true), (9, true), (10, true), (11, true), (12, true), (13, true), (14, true), (15, true), (16, true), (17, true), (18, true)] (by kernel_rfl) (by kernel_rfl) (S.sel [0, 1, 2, 3, 4, 5, 6] rfl rfl) fun K45 k45 => ?_
     refine qF H <| qr 1 rfl <| qd rfl (fun _ S => does_ge_f rfl rfl (by omega)) <| qr 1 rfl <| qK ?_;clear H a;intro a H
     refine wq_no H rfl rfl rfl rfl rfl ?_;clear H a;intro a H
     refine wq_no H rfl rfl rfl rfl rfl ?_;clear H a;intro a H
     refine wq_no H rfl rfl rfl rfl rfl ?_;clear H a;intro a H
     refine wq_no H rfl rfl rfl rfl rfl ?_;clear H a;intro a H
     refine wq_no H rfl rfl rfl rfl rfl ?_;clear H a;intro a H
     refine qF H <| qd rfl (fun _ S => (does_pick rfl rfl rfl)) <| qr 1 rfl <| qK ?_;clear H a;intro a H
     refine wq_no H rfl rfl rfl rfl rfl ?_;clear H a;intro a H
     refine wq_no H rfl rfl rfl rfl rfl ?_;clear H a;intro a H
     refine wq_no H rfl rfl rfl rfl rfl ?_;clear H a;intro a H
     refine wq_no H rfl rfl rfl rfl rfl ?_;clear H a;intro a H
     refine wq_no H rfl rfl rfl rfl rfl ?_;clear H a;intro a H
     refine wq_no H rfl rfl rfl rfl rfl ?_;clear H a;intro a H
     refine wq_no H rfl rfl rfl rfl rfl ?_;clear H a;intro a H
     refine wq_no H rfl rfl rfl rfl rfl ?_;clear H a;intro a H
     refine qF H <| qd rfl (fun _ S => (does_pick rfl rfl rfl)) <| qK ?_;clear H a;intro a H
     refine wq_nil ?_
     refine k45 _ _ ?_
     clear k45 K45
     refine cond_ H rfl (fun hc8 => ?_) (fun hc8 => ?_)
     ·skip
      skip
      cases hc8
     skip
     rw [jk_no (one_no (xs := xs) (T := T) (t := t) (i := i) (fun h9 => by omega))] at S
     refine wp_skip ?_
     refine k43 _ _ ?_
     replace H := H.keep [1, 3, 4, 9, 10, 11, 14, 15, 16, 17, 18] rfl
     refine sO H <| sr 1 rfl <| sd (does_add rfl rfl (by unfold i64ok; omega)) <| sr 1 rfl <| sE ?_;clear H a;intro a H
     exact k40 (g5 - 1) (k + 1, _, _, _, _) a _ (by omega) (⟨by omega, by omega⟩) (S.sel [0, 1, 2, 3, 4, 5, 6] rfl rfl) (H.keep [18, 1, 3, 4, 9, 10, 11, 14, 15, 16, 17] rfl)
    ·skip
     replace H := H.keep [1, 3, 4, 9, 10, 11, 14, 15, 16, 17, 18, 19] rfl
     replace S := S.drew
     refine seq_wq [(0, true), (1, true), (2, true), (3, true), (4, true), (5, true), (6, true), (7, true), (8, true), (9, true), (10, true), (11, true), (12, true), (13, true), (14, true), (15, true), (16, true), (17, true), (18, true)] (by kernel_rfl) (by kernel_rfl) (S.sel [0, 1, 2, 3, 4, 5, 6] rfl rfl) fun K47 k47 => ?_
     refine qF H <| qr 1 rfl <| qd rfl (fun _ S => does_ge_t rfl rfl hB.1) <| qr 1 rfl <| qK ?_;clear H a;intro a H
     refine wq_yes H rfl rfl rfl rfl (fun _ S => does_move rfl) ?_;clear H a;intro a H
     refine wq_yes H rfl rfl rfl rfl (fun _ S => does_move rfl) ?_;clear H a;intro a H
     refine wq_yes H rfl rfl rfl rfl (fun _ S => does_add rfl rfl (by unfold i64ok; omega)) ?_;clear H a;intro a H
     refine wq_yes H rfl rfl rfl rfl (fun _ S => does_move rfl) ?_;clear H a;intro a H
     refine wq_yes H rfl rfl rfl rfl (fun _ S => does_le_f rfl rfl hB.2) ?_;clear H a;intro a H
     refine qF H <| qd rfl (fun _ S => (does_and rfl rfl rfl)) <| qr 1 rfl <| qK ?_;clear H a;intro a H
     refine wq_no H rfl rfl rfl rfl rfl ?_;clear H a;intro a H
     refine wq_no H rfl rfl rfl rfl rfl ?_;clear H a;intro a H
     refine wq_no H rfl rfl rfl rfl rfl ?_;clear H a;intro a H
     refine wq_no H rfl rfl rfl rfl rfl ?_;clear H a;intro a H
     refine wq_no H rfl rfl rfl rfl rfl ?_;clear H a;intro a H
     refine wq_no H rfl rfl rfl rfl rfl ?_;clear H a;intro a H
     refine wq_no H rfl rfl rfl rfl rfl ?_;clear H a;intro a H
     refine wq_no H rfl rfl rfl rfl rfl ?_;clear H a;intro a H
     refine qF H <| qd rfl (fun _ S => (does_pick rfl rfl rfl)) <| qK ?_;clear H a;intro a H
     refine wq_nil ?_
     refine k47 _ _ ?_
     clear k47 K47
     refine cond_ H rfl (fun hc9 => ?_) (fun hc9 => ?_)
     ·skip
      skip
      cases hc9
     skip
     rw [jk_no (one_no (xs := xs) (T := T) (t := t) (i := i) (fun h9 => by omega))] at S
     refine wp_skip ?_
     refine k43 _ _ ?_
     replace H := H.keep [1, 3, 4, 9, 10, 11, 14, 15, 16, 17, 18] rfl
     refine sO H <| sr 1 rfl <| sd (does_add rfl rfl (by unfold i64ok; omega)) <| sr 1 rfl <| sE ?_;clear H a;intro a H
     exact k40 (g5 - 1) (k + 1, _, _, _, _) a _ (by omega) (⟨by omega, by omega⟩) (S.sel [0, 1, 2, 3, 4, 5, 6] rfl rfl) (H.keep [18, 1, 3, 4, 9, 10, 11, 14, 15, 16, 17] rfl)
    replace H := H.keep [1, 3, 4, 9, 10, 11, 14, 15, 16, 17, 18, 19] rfl
    replace S := S.drew
    refine seq_wq [(0, true), (1, true), (2, true), (3, true), (4, true), (5, true), (6, true), (7, true), (8, true), (9, true), (10, true), (11, true), (12, true), (13, true), (14, true), (15, true), (16, false), (17, true), (18, true)] (by kernel_rfl) (by kernel_rfl) (S.sel [0, 1, 2, 3, 4, 5, 6] rfl rfl) fun K49 k49 => ?_
    refine qF H <| qr 1 rfl <| qd rfl (fun _ S => does_ge_t rfl rfl hB.1) <| qr 1 rfl <| qK ?_;clear H a;intro a H
    refine wq_yes H rfl rfl rfl rfl (fun _ S => does_move rfl) ?_;clear H a;intro a H
    refine wq_yes H rfl rfl rfl rfl (fun _ S => does_move rfl) ?_;clear H a;intro a H
    refine wq_yes H rfl rfl rfl rfl (fun _ S => does_add rfl rfl (by unfold i64ok; omega)) ?_;clear H a;intro a H
    refine wq_yes H rfl rfl rfl rfl (fun _ S => does_move rfl) ?_;clear H a;intro a H
    refine wq_yes H rfl rfl rfl rfl (fun _ S => does_le_t rfl rfl hB.2) ?_;clear H a;intro a H
    refine qF H <| qd rfl (fun _ S => (does_and rfl rfl rfl)) <| qr 1 rfl <| qK ?_;clear H a;intro a H
    refine wq_yes H rfl rfl rfl rfl (fun _ S => (does_field fo_25_2 rfl)) ?_;clear H a;intro a H
    refine wq_yes H rfl rfl rfl rfl (fun _ S => does_load one_23 rfl (boxM.rd S (i := 6) rfl rfl)) ?_;clear H a;intro a H
    refine wq_yes H rfl rfl rfl rfl (fun _ S => does_move rfl) ?_;clear H a;intro a H
    refine wq_yes H rfl rfl rfl rfl (fun _ S => does_move rfl) ?_;clear H a;intro a H
    refine wq_yes H rfl rfl rfl rfl (fun _ S => does_indexN sl_23 sz_3 rfl rfl (ownM.adr S (i := 4) rfl (by omega)) (by omega)) ?_;clear H a;intro a H
    refine wq_yes H rfl rfl rfl rfl (fun _ S => does_load one_3 rfl (ownM.rd S (i := 4) rfl (by omega) (by omega))) ?_;clear H a;intro a H
    refine wq_eff rfl ?_
    refine list_yes H rfl rfl ?_
    refine list_call H rfl rfl Try.func57 rfl rfl (ref_has xs XA xc _ _ (hxs.now S) hxn) ?_;clear H a
    rintro _ _ a ⟨rfl, S2⟩ H
    replace S := S.call S2;clear S2
    refine wpList_nil (And.intro (S.sel [0, 1, 2, 3, 4, 5, 6] rfl rfl) ?_)
    refine wq_yes H rfl rfl rfl rfl (fun _ S => does_not rfl) ?_;clear H a;intro a H
    refine qF H <| qd rfl (fun _ S => (does_and rfl rfl rfl)) <| qK ?_;clear H a;intro a H
    refine wq_nil ?_
    refine k49 _ _ ?_
    clear k49 K49
    refine cond_ H rfl (fun hc10 => ?_) (fun hc10 => ?_)
    ·skip
     try simp only [o1,o2,o3,o4,o5,o6,o7,o8,o9,oa] at hc10
     have hc10 := hc10.2
     have hnt := ndR_lt (P := P) (T := T) (p := (endI (ps.getD i Psg.zero) k).toNat) (t := t) (by omega) (by omega)
     have hnt2 := ndR_lt (P := P) (T := T) (p := (endI (ps.getD i Psg.zero) (1 - k)).toNat) (t := t + (goneI out (ps.getD i Psg.zero) (endI (ps.getD i Psg.zero) k)).toNat) (by omega) (by omega)
     have hl1 := jrPlaces_len (P := P) (T := T) (pe := pe) (xs := xs) P
     have hb1 : P * (T + 2) ≤ 10 * 62 := Nat.mul_le_mul (by omega) (by omega)
     have hl2 := jrHeads_len (T := T) (xs := xs) (out := out) (ps := ps) (by omega) t
     have hl3 := jrPsgs_len (T := T) (xs := xs) (out := out) (ps := ps) (t := t) i
     have hl4 := jrKs_len (T := T) (xs := xs) (out := out) (p := (ps.getD i Psg.zero)) (i := i) (t := t) k
     have hJl : (((jrPlaces P T pe xs P ++ (jrHeads T xs out ps t ++ jrPsgs T xs out ps t i)) ++ jrKs T xs out (ps.getD i Psg.zero) i t k)).length ≤ 100000 := by rw [List.length_append, List.length_append, List.length_append]; omega
     replace H := H.keep [1, 3, 4, 9, 10, 11, 14, 15, 16, 17, 18, 19] rfl
     replace S := S.drew
     refine one_wq [(0, true), (1, true), (2, true), (3, true), (4, true), (5, true), (6, true), (8, true), (9, true), (10, true), (11, true), (12, true), (13, true), (14, true), (15, true), (16, true), (18, true), (19, true), (20, true), (21, true), (7, false), (17, false), (22, false)] (by kernel_rfl) (by kernel_rfl) (S.sel [4, 5, 6] rfl rfl) ?_
     refine qF H <| qr 4 rfl <| qd rfl (fun _ S => does_indexN sl_23 sz_3 rfl rfl (ownM.adr S (i := 0) rfl (by omega)) (by omega)) <| qd rfl (fun _ S => does_load one_3 rfl (ownM.rd S (i := 0) rfl (by omega) (by omega))) <| qr 4 rfl <| qd rfl (fun _ S => (does_sub rfl rfl (by unfold i64ok; omega)).to (v' := .int .i64 ((1 - k : Nat) : Int)) (by congr 1; omega)) <| qd rfl (fun _ S => does_indexN sl_23 sz_3 rfl rfl (ownM.adr S (i := 0) rfl (by omega)) (by omega)) <| qd rfl (fun _ S => does_load one_3 rfl (ownM.rd S (i := 0) rfl (by omega) (by omega))) <| qr 2 rfl <| qd rfl (fun _ S => (does_add rfl rfl (by unfold i64ok; omega)).to (v' := .int .i64 ((t + (goneI out (ps.getD i Psg.zero) (endI (ps.getD i Psg.zero) k)).toNat : Nat) : Int)) (by congr 1; omega)) <| qd rfl (fun _ S => (does_field fo_45_4 rfl)) <| qd rfl (fun _ S => does_load one_3 rfl (boxM.rd S (i := 1) rfl rfl)) <| qr 2 rfl <| qK ?_;clear H a;intro a H
     refine wq_eff rfl ?_
     refine list_call H rfl rfl Try.func74 rfl rfl (ref_nodeI (egs ((jrPlaces P T pe xs P ++ (jrHeads T xs out ps t ++ jrPsgs T xs out ps t i)) ++ jrKs T xs out (ps.getD i Psg.zero) i t k)) b28 P T _ _ EA ec (P * (T + 1) + 2) AA A' c' 0 (endI (ps.getD i Psg.zero) k) t _ _ ((S.sel [0] rfl rfl).startR) (by omega) (by omega) (by omega)) ?_;clear H a
     rintro _ _ a ⟨rfl, rfl⟩ H
     refine wpList_nil (And.intro (S.sel [4, 5, 6] rfl rfl) ?_)
     refine wq_eff rfl ?_
     refine list_call H rfl rfl Try.func74 rfl rfl (ref_nodeI (egs ((jrPlaces P T pe xs P ++ (jrHeads T xs out ps t ++ jrPsgs T xs out ps t i)) ++ jrKs T xs out (ps.getD i Psg.zero) i t k)) b28 P T _ _ EA ec (P * (T + 1) + 2) AA A' c' 0 (endI (ps.getD i Psg.zero) (1 - k)) (t + (goneI out (ps.getD i Psg.zero) (endI (ps.getD i Psg.zero) k)).toNat) _ _ ((S.sel [0] rfl rfl).startR) (by omega) (by omega) (by omega)) ?_;clear H a
     rintro _ _ a ⟨rfl, rfl⟩ H
     refine wpList_nil (And.intro (S.sel [4, 5, 6] rfl rfl) ?_)
     refine wq_eff rfl ?_
     have S1 := (S.sel [0, 1, 2, 3] rfl rfl)
     refine list_call H rfl rfl Try.func90 rfl rfl (ref_add ((jrPlaces P T pe xs P ++ (jrHeads T xs out ps t ++ jrPsgs T xs out ps t i)) ++ jrKs T xs out (ps.getD i Psg.zero) i t k) b28 P T _ _ EA ec (P * (T + 1) + 2) AA A' c' 0 (ndR T (endI (ps.getD i Psg.zero) k).toNat t) (ndR T (endI (ps.getD i Psg.zero) (1 - k)).toNat (t + (goneI out (ps.getD i Psg.zero) (endI (ps.getD i Psg.zero) k)).toNat)) (ps.getD i Psg.zero).wide (i : Int) (t : Int) _ _ S1.startR (by omega) (by omega) (ndR_ne (by omega) (by omega) (by omega)) hJl (fun i _ => Nat.le_trans ixs_le (by omega))) ?_;clear H a
     rintro _ _ a ⟨rfl, EA2, ec2, A2, c2, S2⟩ H
     replace S := (S.sel [0, 1, 2, 3, 4, 5, 6] rfl rfl).callR (M := [_, _, _, _]) S2; clear S1 S2
     rw [jk_yes (one_yes ⟨hB, hc10⟩)] at S
     refine wpList_nil (And.intro (S.sel [4, 5, 6] rfl rfl) ?_)
     refine wq_nil ?_
     refine k43 _ _ ?_
     replace H := H.keep [1, 3, 4, 9, 10, 11, 14, 15, 16, 17, 18] rfl
     refine sO H <| sr 1 rfl <| sd (does_add rfl rfl (by unfold i64ok; omega)) <| sr 1 rfl <| sE ?_;clear H a;intro a H
     exact k40 (g5 - 1) (k + 1, _, _, _, _) a _ (by omega) (⟨by omega, by omega⟩) (S.sel [0, 1, 2, 3, 4, 5, 6] rfl rfl) (H.keep [18, 1, 3, 4, 9, 10, 11, 14, 15, 16, 17] rfl)
    try simp only [o1,o2,o3,o4,o5,o6,o7,o8,o9,oa] at hc10
    have hx9 : hasI xs (endI (ps.getD i Psg.zero) k) = true := by rcases hc10 with (h | h) | h; cases h; cases h; exact h
    rw [jk_no (one_no (xs := xs) (T := T) (t := t) (i := i) (fun h9 => by rw [hx9] at h9; cases h9.2))] at S
    refine wp_skip ?_
    refine k43 _ _ ?_
    refine sO H <| sr 1 rfl <| sd (does_add rfl rfl (by unfold i64ok; omega)) <| sr 1 rfl <| sE ?_;clear H a;intro a H
    exact k40 (g5 - 1) (k + 1, _, _, _, _) a _ (by omega) (⟨by omega, by omega⟩) (S.sel [0, 1, 2, 3, 4, 5, 6] rfl rfl) (H.keep [18, 1, 3, 4, 9, 10, 11, 14, 15, 16, 17] rfl)
   refine wp_exit ?_
   refine k36 _ _ ?_
   refine sO H <| sr 1 rfl <| sd (does_add rfl rfl (by unfold i64ok; omega)) <| sr 1 rfl <| sE ?_;clear H a;intro a H
   rw [show k = 2 by omega, jk_two] at S
   exact k33 (g4 - 1) (i + 1, _, _, _, _) a _ (by omega) (⟨by omega, by omega⟩) (S.sel [0, 1, 2, 3, 6] rfl rfl) (H.keep [15, 1, 3, 4, 9, 10, 11, 14] rfl)
  refine wp_exit ?_
  refine k31 _ _ ?_
  replace H := H.keep [1, 3, 4, 9, 10, 11, 14] rfl
  refine sO H <| sr 1 rfl <| sd (does_add rfl rfl (by unfold i64ok; omega)) <| sr 1 rfl <| sE ?_;clear H a;intro a H
  rw [show i = ps.length by omega, jk_row] at S
  exact k28 (g3 - 1) (t + 1, _, _, _, _) a _ (by omega) (⟨by omega, by omega⟩) (S.sel [0, 1, 2, 3, 4] rfl rfl) (H.keep [14, 1, 3, 4, 9, 10, 11] rfl)
 refine wp_exit ?_
 refine k26 _ _ ?_
 refine wp_block ?_
 rw [show t = T + 1 by omega] at S
 have hK : Lk (layR P T pe xs out ps) (egs (jrAll P T pe xs out ps)) := lk_net hOR.ne
 have hl1 := jrPlaces_len (P := P) (T := T) (pe := pe) (xs := xs) P
 have hb1 : P * (T + 2) ≤ 10 * 62 := Nat.mul_le_mul (by omega) (by omega)
 have hl2 := jrHeads_len (T := T) (xs := xs) (out := out) (ps := ps) (by omega) (T + 1)
 have hEl : (egs (jrAll P T pe xs out ps)).length ≤ 10000 := by rw [egs_len]; unfold jrAll; rw [List.length_append]; omega
 have hbR := beg_R (T := T) (out := out) hV hpp
 refine loop_st (X := (Nat → Int) × Int) (R0 := _) [9, 10, 11] H rfl (fun ⟨r, vol⟩ => []) (fun ⟨r, vol⟩ => [boxM b28 124 [.int .i64 (P : Int), .slice PA ps.length pc, .slice XA xs.length xc, .int .i64 (T : Int), .slice EA (egs (jrAll P T pe xs out ps)).length ec, .slice AA ((P * (T + 1) + 2)) ((P * (T + 1) + 2)), .int .i64 (vol)], ownM 144 5 EA (egs (jrAll P T pe xs out ps)).length ec (egc (egs (jrAll P T pe xs out ps)) (r))]) (fun g ⟨r, vol⟩ => Fl (layR P T pe xs out ps) (roomR P T pe xs out ps) (rmE (egs (jrAll P T pe xs out ps)) r) (P * (T + 1)) (P * (T + 1) + 1) vol ∧ 0 ≤ vol ∧ (g : Int) + vol = resid (layR P T pe xs out ps) (roomR P T pe xs out ps) (fun v => decide (v = P * (T + 1)))) ((resid (layR P T pe xs out ps) (roomR P T pe xs out ps) (fun v => decide (v = P * (T + 1)))).toNat) (egr (jrAll P T pe xs out ps), 0) ?_ (S.sel [0, 1, 2, 3, 4] rfl rfl) (H.keep [9, 10, 11] rfl) ?_
 · exact ⟨(Fl.zero hOR.ok).congr hOR.wf (rm_net hOR.ne), by omega, by have := resid_nn (S := fun v => decide (v = P * (T + 1))) hOR.ok; omega⟩
 clear H S a
 intro g6 x6 a w6 hp S H K55 k55
 obtain ⟨r, vol⟩ := x6
 dsimp only at hp S H
 obtain ⟨hF, h0v, hgv⟩ := hp
 have hO1 := hF.ok hOR.ok
 have hFb0 := hF.bound hOR.ok (by omega)
 refine wp_block ?_
 refine seq_list fun K56 k56 => ?_
 refine ls 1 H <| sr 1 rfl <| sE ?_;clear H a;intro a H
 have S1 := (S.sel [0, 1, 2, 3] rfl rfl)
 refine list_call H rfl rfl Try.func73 rfl rfl (ref_reached (layR P T pe xs out ps) (egs (jrAll P T pe xs out ps)) r b28 P T _ _ EA ec (P * (T + 1) + 2) AA A' c' vol _ _ S1.startR hK hOR.wf rfl (by omega) (by omega) (by omega) (by omega) (by omega)) ?_;clear H a
 rintro _ _ a ⟨IA, BA, L, by_, rfl, hLv, hRc, S2⟩ H
 replace S := (S.sel [0, 1, 2, 3, 4] rfl rfl).callR (M := [_, _, _, _]) S2; clear S1 S2
 refine ls 5 H <| sr 5 rfl <| sE ?_;clear H a;intro a H
 refine k56 _ _ ?_;clear k56 K56
 refine wp_seq_k fun K57 k57 => ?_
 replace H := H.keep [9, 10, 11, 20, 21] rfl
 refine sS H fun K58 k58=>sr 2 rfl <| si sl_114 sz_4 rfl rfl (ownM.adr S (i := 0) rfl (by omega)) (by omega) <| slm one_4 rfl (ownM.rd S (i := 0) rfl (by omega) (by omega)) <| sr 1 rfl <| sE ?_;clear H a;intro a H
 refine k58 _ ?_;clear k58 K58
 refine cond_ H rfl (fun hc11 => ?_) (fun hc11 => ?_)
 ·skip
  try simp only [o1,o2,o3,o4,o5,o6,o7,o8,o9,oa] at hc11
  have hfull : L (P * (T + 1) + 1) < 0 := by unfold reached at hc11; simpa using hc11
  refine sS H fun K59 k59=>sr 2 rfl <| sE ?_;clear H a;intro a H
  refine k59 _ ?_;clear k59 K59
  refine wp_ret ?_
  refine ret1 (fn := Try.f72) rfl H rfl ?_
  exact ⟨_, _, _, _, _, _, r, vol, L, rfl, ⟨hF, h0v, hLv, hfull⟩, (S.sel [2, 3, 4, 5] rfl rfl)⟩
 try simp only [o1,o2,o3,o4,o5,o6,o7,o8,o9,oa] at hc11
 have hx0 : 0 ≤ L (P * (T + 1) + 1) := by unfold reached at hc11; simpa using hc11
 have hxk := hLv.rng (P * (T + 1) + 1) (by show (P * (T + 1) + 1) < (P * (T + 1) + 2); omega)
 refine wp_skip ?_
 refine k57 _ _ ?_
 refine sS H fun K60 k60=>sr 1 rfl <| sE ?_;clear H a;intro a H
 refine k60 _ ?_;clear k60 K60
 refine wp_seq_k fun K61 k61 => ?_
 replace H := H.keep [9, 10, 11, 21, 22] rfl
 refine sS H fun K62 k62=>sr 2 rfl <| sE ?_;clear H a;intro a H
 refine k62 _ ?_;clear k62 K62
 refine wp_block ?_
 refine loop_st (X := Nat × Int) (R0 := _) [9, 10, 11, 21] H rfl (fun ⟨i, most⟩ => [(22, .int .i64 most), (23, .int .i64 (((pth (egs (jrAll P T pe xs out ps)) by_ (P * (T + 1) + 1) i) : Nat) : Int))]) (fun ⟨i, most⟩ => []) (fun g ⟨i, most⟩ => (i : Int) ≤ L (P * (T + 1) + 1) ∧ (g : Int) + i = L (P * (T + 1) + 1) ∧ 1 ≤ most ∧ most ≤ 1073741824 ∧ ∀ q, q < i → most ≤ r (by_ (pth (egs (jrAll P T pe xs out ps)) by_ (P * (T + 1) + 1) q))) ((L (P * (T + 1) + 1)).toNat) (0, 1073741824) ?_ (S.sel [0, 1, 2, 3, 4, 5, 6] rfl rfl) (H.keep [22, 23, 9, 10, 11, 21] rfl) ?_
 · exact ⟨by omega, by omega, by omega, by omega, fun q hq => absurd hq (Nat.not_lt_zero q)⟩
 clear H S a
 intro g7 x7 a w7 hp S H K63 k63
 obtain ⟨i, most⟩ := x7
 dsimp only at hp S H
 obtain ⟨hiLe, hgi, hm1, hmx, hml⟩ := hp
 refine wp_seq_k fun K64 k64 => ?_
 refine sS H fun K65 k65=>sr 3 rfl <| sE ?_;clear H a;intro a H
 refine k65 _ ?_;clear k65 K65
 refine condN H rfl (fun hc12 => ?_) (fun hc12 => ?_)
 ·skip
  have hiL : (i : Int) < L (P * (T + 1) + 1) := by
    rcases Int.lt_or_le (i : Int) (L (P * (T + 1) + 1)) with h | h
    · exact h
    · exact absurd (congrArg (fun n : Nat => (n : Int)) (pth_end hK hRc hLv.b0 (by show (P * (T + 1) + 1) < (P * (T + 1) + 2); omega) (i := i) (by omega))) hc12
  refine wp_skip ?_
  refine k64 _ _ ?_
  refine wp_seq_k fun K66 k66 => ?_
  refine wp_block ?_
  have hpa := pth_at hK hRc hLv.b0 (by show (P * (T + 1) + 1) < (P * (T + 1) + 2); omega) i (by omega)
  have hpk : (pth (egs (jrAll P T pe xs out ps)) by_ (P * (T + 1) + 1) i) < (P * (T + 1) + 2) := hpa.1
  obtain ⟨je, hq1, hq2, hq3, hq4, hq5, hq6, hq7⟩ := pth_edge hK hRc hLv.b0 (by show (P * (T + 1) + 1) < (P * (T + 1) + 2); omega) (i := i) (by omega)
  replace H := H.keep [9, 10, 11, 21, 22, 23] rfl
  replace S := S.drew
  refine sP H <| sr 3 rfl <| sf fo_124_2 rfl <| sl S 2 one_121 rfl rfl rfl <| sr 2 rfl <| si sl_23 sz_3 rfl rfl (ownM.adr S (i := 1) rfl (by omega)) (by omega) <| slm one_3 rfl (ownM.rd S (i := 1) rfl (by omega) (by omega)) <| si sl_121 sz_144 rfl rfl (ownM.adr S (i := 3) rfl (by omega)) (by omega) <| sp fo_144_2 rfl <| slm one_3 rfl (ownM.rd S (i := 3) rfl (by omega) (by omega)) <| sd (does_min rfl rfl) <| sr 1 rfl <| sE ?_;clear H a;intro a H
  refine k66 _ _ ?_
  skip
  replace H := H.keep [9, 10, 11, 21, 22, 23] rfl
  replace S := S.drew
  refine sP H <| sr 2 rfl <| sf fo_124_2 rfl <| sl S 2 one_121 rfl rfl rfl <| sr 2 rfl <| si sl_23 sz_3 rfl rfl (ownM.adr S (i := 1) rfl (by omega)) (by omega) <| slm one_3 rfl (ownM.rd S (i := 1) rfl (by omega) (by omega)) <| si sl_121 sz_144 rfl rfl (ownM.adr S (i := 3) rfl (by omega)) (by omega) <| sp fo_144_0 rfl <| slm one_3 rfl (ownM.rd S (i := 3) rfl (by omega) (by omega)) <| sr 1 rfl <| sE ?_;clear H a;intro a H
  exact k63 (g7 - 1) (i + 1, min most (r (by_ (pth (egs (jrAll P T pe xs out ps)) by_ (P * (T + 1) + 1) i)))) a _ (by omega) (⟨by omega, by omega, by omega, by omega, fun q hq => by
    by_cases e : q = i
    · subst e; omega
    · have := hml q (by omega); omega⟩) (S.sel [0, 1, 2, 3, 4, 5, 6] rfl rfl) (H.keep [22, 23, 9, 10, 11, 21] rfl)
 have hiL : (i : Int) = L (P * (T + 1) + 1) := by
   rcases Int.lt_or_le (i : Int) (L (P * (T + 1) + 1)) with h | h
   · exact absurd (by omega) (pth_ne hK hRc hLv.b0 (by show (P * (T + 1) + 1) < (P * (T + 1) + 2); omega) h)
   · omega
 refine wp_exit ?_
 refine k61 _ _ ?_
 refine wp_seq_k fun K69 k69 => ?_
 replace H := H.keep [9, 10, 11, 21, 22] rfl
 refine sS H fun K70 k70=>sr 2 rfl <| sE ?_;clear H a;intro a H
 refine k70 _ ?_;clear k70 K70
 refine wp_block ?_
 refine loop_st (X := Nat × (Nat → Int)) (R0 := _) [9, 10, 11, 21, 22] H rfl (fun ⟨i2, r2⟩ => [(24, .int .i64 (((pth (egs (jrAll P T pe xs out ps)) by_ (P * (T + 1) + 1) i2) : Nat) : Int))]) (fun ⟨i2, r2⟩ => [ownM 144 5 EA (egs (jrAll P T pe xs out ps)).length ec (egc (egs (jrAll P T pe xs out ps)) (r2))]) (fun g ⟨i2, r2⟩ => (i2 : Int) ≤ L (P * (T + 1) + 1) ∧ (g : Int) + i2 = L (P * (T + 1) + 1) ∧ Fl (layR P T pe xs out ps) (rmE (egs (jrAll P T pe xs out ps)) r) (rmE (egs (jrAll P T pe xs out ps)) r2) (pth (egs (jrAll P T pe xs out ps)) by_ (P * (T + 1) + 1) i2) (P * (T + 1) + 1) most ∧ ∀ q : Nat, i2 ≤ q → (q : Int) < L (P * (T + 1) + 1) → most ≤ r2 (by_ (pth (egs (jrAll P T pe xs out ps)) by_ (P * (T + 1) + 1) q))) ((L (P * (T + 1) + 1)).toNat) (0, r) ?_ (S.sel [3, 0, 1, 2, 4, 5, 6] rfl rfl) (H.keep [24, 9, 10, 11, 21, 22] rfl) ?_
 · exact ⟨by omega, by omega, Fl.here hO1, fun q _ hq => hml q (by omega)⟩
 clear H S a
 intro g8 x8 a w8 hp S H K71 k71
 obtain ⟨i2, r2⟩ := x8
 dsimp only at hp S H
 obtain ⟨hi2Le, hgi2, hF2, hke⟩ := hp
 have hO2 := hF2.ok hO1
 refine wp_seq_k fun K72 k72 => ?_
 refine sS H fun K73 k73=>sr 3 rfl <| sE ?_;clear H a;intro a H
 refine k73 _ ?_;clear k73 K73
 refine condN H rfl (fun hc13 => ?_) (fun hc13 => ?_)
 ·skip
  have hiL2 : (i2 : Int) < L (P * (T + 1) + 1) := by
    rcases Int.lt_or_le (i2 : Int) (L (P * (T + 1) + 1)) with h | h
    · exact h
    · exact absurd (congrArg (fun n : Nat => (n : Int)) (pth_end hK hRc hLv.b0 (by show (P * (T + 1) + 1) < (P * (T + 1) + 2); omega) (i := i2) (by omega))) hc13
  refine wp_skip ?_
  refine k72 _ _ ?_
  refine wp_seq_k fun K74 k74 => ?_
  refine wp_block ?_
  have hpa := pth_at hK hRc hLv.b0 (by show (P * (T + 1) + 1) < (P * (T + 1) + 2); omega) i2 (by omega)
  have hpk : (pth (egs (jrAll P T pe xs out ps)) by_ (P * (T + 1) + 1) i2) < (P * (T + 1) + 2) := hpa.1
  obtain ⟨je, hq1, hq2, hq3, hq4, hq5, hq6, hq7⟩ := pth_edge hK hRc hLv.b0 (by show (P * (T + 1) + 1) < (P * (T + 1) + 2); omega) (i := i2) (by omega)
  obtain ⟨hrg1, hrg2, hrg3⟩ := pth_rng (r2 := r2) hK hOR.wf hRc hLv.b0 (by show (P * (T + 1) + 1) < (P * (T + 1) + 2); omega) hO2 (i := i2) (by omega)
  have hm2 := hke i2 (Nat.le_refl _) (by omega)
  replace H := H.keep [9, 10, 11, 21, 22, 24] rfl
  refine seq_tail 15 (by kernel_rfl) (by kernel_rfl) fun K75 k75 => ?_
  replace S := S.drew
  refine sF H <| sr 2 rfl <| sf fo_124_2 rfl <| sl S 3 one_121 rfl rfl rfl <| sr 2 rfl <| si sl_23 sz_3 rfl rfl (ownM.adr S (i := 2) rfl (by omega)) (by omega) <| slm one_3 rfl (ownM.rd S (i := 2) rfl (by omega) (by omega)) <| si sl_121 sz_144 rfl rfl (ownM.adr S (i := 0) rfl (by omega)) (by omega) <| sp fo_144_2 rfl <| slm one_3 rfl (ownM.rd S (i := 0) rfl (by omega) (by omega)) <| sr 1 rfl <| sd (does_sub rfl rfl (by unfold i64ok; omega)) <| si sl_121 sz_144 rfl rfl (ownM.adr S (i := 0) rfl (by omega)) (by omega) <| sp fo_144_2 rfl <| sE ?_;clear H a;intro a H
  refine list_store_own H S (i := 0) rfl rfl rfl (by omega) (by omega) sz_3 rfl ?_
  clear H a S;intro _ a S H
  replace S := S.recell (i := 0) rfl (cell' := egc (egs (jrAll P T pe xs out ps)) (upd r2 (by_ (pth (egs (jrAll P T pe xs out ps)) by_ (P * (T + 1) + 1) i2)) (r2 (by_ (pth (egs (jrAll P T pe xs out ps)) by_ (P * (T + 1) + 1) i2)) - most))) (fun k j _ hj => egc_upd k j hj)
  refine k75 _ _ ?_;clear k75 K75
  skip
  replace H := H.keep [9, 10, 11, 21, 22, 24] rfl
  refine one_tail 16 (by kernel_rfl) (by kernel_rfl) ?_
  replace S := S.drew
  refine sF H <| sr 2 rfl <| sf fo_124_2 rfl <| sl S 3 one_121 rfl rfl rfl <| sr 2 rfl <| si sl_23 sz_3 rfl rfl (ownM.adr S (i := 2) rfl (by omega)) (by omega) <| slm one_3 rfl (ownM.rd S (i := 2) rfl (by omega) (by omega)) <| sd (does_xor1 rfl rfl (by omega)) <| si sl_121 sz_144 rfl rfl (ownM.adr S (i := 0) rfl (by omega)) (by omega) <| sp fo_144_2 rfl <| slm one_3 rfl (ownM.rd S (i := 0) rfl (by omega) (by omega)) <| sr 1 rfl <| sd (does_add rfl rfl (by rw [upd_ne _ _ (fun h => tw_ne h)]; unfold i64ok; omega)) <| si sl_121 sz_144 rfl rfl (ownM.adr S (i := 0) rfl (by omega)) (by omega) <| sp fo_144_2 rfl <| sE ?_;clear H a;intro a H
  refine list_store_own H S (i := 0) rfl rfl rfl (by omega) (by omega) sz_3 rfl ?_
  clear H a S;intro _ a S H
  replace S := S.recell (i := 0) rfl (cell' := egc (egs (jrAll P T pe xs out ps)) (pushE r2 (by_ (pth (egs (jrAll P T pe xs out ps)) by_ (P * (T + 1) + 1) i2)) most)) (fun k j _ hj => push_cells k j hj)
  refine k74 _ _ ?_
  replace H := H.keep [9, 10, 11, 21, 22, 24] rfl
  replace S := S.drew
  refine sP H <| sr 2 rfl <| sf fo_124_2 rfl <| sl S 3 one_121 rfl rfl rfl <| sr 2 rfl <| si sl_23 sz_3 rfl rfl (ownM.adr S (i := 2) rfl (by omega)) (by omega) <| slm one_3 rfl (ownM.rd S (i := 2) rfl (by omega) (by omega)) <| si sl_121 sz_144 rfl rfl (ownM.adr S (i := 0) rfl (by omega)) (by omega) <| sp fo_144_0 rfl <| slm one_3 rfl (ownM.rd S (i := 0) rfl (by omega) (by omega)) <| sr 1 rfl <| sE ?_;clear H a;intro a H
  exact k71 (g8 - 1) (i2 + 1, pushE r2 (by_ (pth (egs (jrAll P T pe xs out ps)) by_ (P * (T + 1) + 1) i2)) most) a _ (by omega) (⟨by omega, by omega, push_pth hK hOR.wf hRc hLv.b0 (by show (P * (T + 1) + 1) < (P * (T + 1) + 2); omega) (by omega) hF2 (by omega) hm2, push_keep hK hRc hLv.b0 (by show (P * (T + 1) + 1) < (P * (T + 1) + 2); omega) (by omega) (by omega) hrg2.1 hke⟩) (S.sel [0, 1, 2, 3, 4, 5, 6] rfl rfl) (H.keep [24, 9, 10, 11, 21, 22] rfl)
 have hiL2 : (i2 : Int) = L (P * (T + 1) + 1) := by
   rcases Int.lt_or_le (i2 : Int) (L (P * (T + 1) + 1)) with h | h
   · exact absurd (by omega) (pth_ne hK hRc hLv.b0 (by show (P * (T + 1) + 1) < (P * (T + 1) + 2); omega) h)
   · omega
 have hpe2 := pth_end hK hRc hLv.b0 (by show (P * (T + 1) + 1) < (P * (T + 1) + 2); omega) (i := i2) hiL2
 rw [hpe2] at hF2
 have hF3 := hF.more hF2
 have hFb := hF3.bound hOR.ok (by omega)
 refine wp_exit ?_
 refine k69 _ _ ?_
 replace H := H.keep [9, 10, 11, 22] rfl
 refine one_list ?_
 refine ls 8 H <| sr 2 rfl <| sf fo_124_4 rfl <| sl S 3 one_3 rfl rfl rfl <| sr 1 rfl <| sd (does_add rfl rfl (by unfold i64ok; omega)) <| sr 1 rfl <| sf fo_124_4 rfl <| sE ?_;clear H a;intro a H
 refine list_store H S (i := 3) rfl rfl rfl rfl sz_3 rfl rfl ?_
 clear H a S;intro _ a S H
 exact k55 ((resid (layR P T pe xs out ps) (roomR P T pe xs out ps) (fun v => decide (v = P * (T + 1))) - (vol + most)).toNat) (r2, vol + most) a _ (by omega) (⟨hF3, by omega, by omega⟩) (S.sel [3, 0, 4, 5, 6] rfl rfl) (H.keep [9, 10, 11] rfl)

end Go.Proofs.Ytlmddkekeoebcaa
