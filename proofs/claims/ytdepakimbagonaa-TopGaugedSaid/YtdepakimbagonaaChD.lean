/- ChD. Printed by gen.py. -/
import Derived.Test.YtdepakimbagonaaChC
namespace Go.Proofs.Ytdepakimbagonaa
open Go.RowKit
set_option linter.unusedVariables false
set_option linter.unusedSimpArgs false
set_option maxRecDepth 100000
set_option maxHeartbeats 4000000


/-- What a web's making leaves. -/
def Woven (w : World) (n : Nat) (o : Option IM) (v : Value) (w' : World) : Prop := match o with
  | some M => ∃ W rb rc, v = .tuple #[.slice W n n, .bool true] ∧ St w noF [ownM 25 1 W n n (fun i _ => rowv rb rc n i), rowsM 3 n n rb rc (M)] w'
  | none => v = .tuple #[.slice none 0 0, .bool false] ∧ St w noF [] w'
theorem gto_fail {n : Nat} {l : List Gauge} {p : Nat → Bool} {M M' : IM} {k : Nat} (hk : k < l.length) (h : gto n l p M k = some M') (hp : p k = true) (hd : diagB n (tightM M' (l.getD k Gauge.zero).fr.toNat (l.getD k Gauge.zero).to.toNat (l.getD k Gauge.zero).lo (l.getD k Gauge.zero).hi) = false) : gto n l p M l.length = none := by
  refine gto_none (k := k + 1) ?_ _ hk
  simp only [gto, h, hp, if_true, gOne, hd]
  rfl
theorem gto_on {n : Nat} {l : List Gauge} {p : Nat → Bool} {M M' : IM} {k : Nat} (h : gto n l p M k = some M') (hp : p k = true) (hd : diagB n (tightM M' (l.getD k Gauge.zero).fr.toNat (l.getD k Gauge.zero).to.toNat (l.getD k Gauge.zero).lo (l.getD k Gauge.zero).hi) = true) : gto n l p M (k + 1) = some (tightM M' (l.getD k Gauge.zero).fr.toNat (l.getD k Gauge.zero).to.toNat (l.getD k Gauge.zero).lo (l.getD k Gauge.zero).hi) := by
  simp only [gto, h, hp, if_true, gOne, hd]
theorem gto_skip {n : Nat} {l : List Gauge} {p : Nat → Bool} {M M' : IM} {k : Nat} (h : gto n l p M k = some M') (hp : p k = false) : gto n l p M (k + 1) = some M' := by
  simp only [gto, h, hp]
  rfl
theorem web_tightenI (n cw : Nat) (W : Option Addr) (rb rc : Nat → Nat) (M : IM) (i j : Int) (lo hi : Int) (w : World) (F : Nat → Prop) (S : St w F [ownM 25 1 W n cw (fun i _ => rowv rb rc n i), rowsM 3 n n rb rc (M)] w) (h0i : 0 ≤ i) (h0j : 0 ≤ j) (hin : i.toNat < n) (hjn : j.toNat < n) (hn : n ≤ 1000) (hM : bdd n 2199023255552 M) (hlo : -2199023255552 ≤ lo ∧ lo ≤ 2199023255552) (hhi : -2199023255552 ≤ hi ∧ hi ≤ 2199023255552) :
    Calls Try.prog 75 [.slice W n cw, .int .i64 i, .int .i64 j, .agg [.int .i64 lo, .int .i64 hi].toArray].toArray w (Ret (fun v w' => v = .bool (diagB n (tightM M i.toNat j.toNat lo hi)) ∧ St w F [ownM 25 1 W n cw (fun i _ => rowv rb rc n i), rowsM 3 n n rb rc (tightM M i.toNat j.toNat lo hi)] w')) := by
  have h := web_tighten n cw W rb rc M i.toNat j.toNat lo hi w F S hin hjn hn hM hlo hhi
  rw [Int.toNat_of_nonneg h0i, Int.toNat_of_nonneg h0j] at h
  exact h
theorem getD2 {v : Value} {k j : Nat} (hk : k < 1) (hj : j < 1) : ([[v]].getD k []).getD j undef = v := by
  have e1 : k = 0 := by omega
  have e2 : j = 0 := by omega
  subst e1; subst e2; rfl
theorem at_of (W : Option Addr) (b : Nat) (n : Nat) (h : W = some ⟨b, 0, none⟩) : W ≠ none := by rw [h]; intro h; cases h


theorem chain_weave (m : Nat) (pitch limit : Int) (l : List Gauge) (A : Option Addr) (cp : Nat) (p : Nat → Bool) (f : Nat) (fn : Func) (caps : List Value) (w : World) (hc : chainOk ⟨(m : Int), pitch, limit⟩ = true) (hlen : l.length ≤ 40) (hg : l.all (gaugeOk m) = true) (hl : InS w noF 4 A l.length (gcell l)) (hf : Try.prog.funcs[f]? = some fn) (hfb : fn.body.isNone = false) (hfn : (fn.name == "runtime.NumGoroutine") = false) (hcall : ∀ (k : Nat) (w' : World), k < l.length → Keeps w w' noF → Calls Try.prog f (.int .i64 (k : Int) :: caps).toArray w' (Ret fun v w'' => v = .bool (p k) ∧ w'' = w')) :
    Calls Try.prog 53 [.agg [.int .i64 (m : Int), .int .i64 pitch, .int .i64 limit].toArray, .slice A l.length cp, .func (.func f) [].toArray caps.toArray].toArray w (Ret (Woven w (m + 1) (weaveW ⟨(m : Int), pitch, limit⟩ l p))) := by
 have hc0 := hc
 unfold chainOk at hc; simp only [decide_eq_true_eq] at hc
 refine enter Try.func53 rfl Try.ntmps53 rfl (fun a H => ?_)
 have S := St.start w
 refine seq_list fun K1 k1 => ?_
 refine list_box H rfl S rfl rfl ?_;clear H a S;intro b3 _ a hb3 hbw3 S H
 refine ls 2 H <| sr 2 rfl <| sE ?_;clear H a;intro a H
 refine k1 _ _ ?_;clear k1 K1
 refine seq_list fun K2 k2 => ?_
 refine ls 3 H <| sf fo_23_0 rfl <| sl S 0 one_3 rfl rfl rfl <| sd (does_add rfl rfl (by unfold i64ok; omega)) <| sE ?_;clear H a;intro a H
 refine list_make (n := m + 1) H rfl S sl_99 sz_25 ze_25 by_25 rfl (by decide) rfl rfl (by omega) (by omega) ?_;clear H a S;intro A1 _ a hA1 S H
 generalize hW : A1 = W at S H
 replace S := S.recell (i := 0) rfl (cell' := fun i _ => if i < 0 then rowv (fun _ => 0) (fun _ => 0) (m + 1) i else .slice none 0 0) (fun k j _ hj => by (try dsimp only); rw [if_neg (by omega)]; exact getD1 hj)
 refine ls 1 H <| sr 1 rfl <| sE ?_;clear H a;intro a H
 refine k2 _ _ ?_;clear k2 K2
 refine wp_seq_k fun K3 k3 => ?_
 replace H := H.keep [1, 2, 3, 8] rfl
 refine sS H fun K4 k4=>sr 1 rfl <| sL sl_99 rfl <| sr 1 rfl <| sE ?_;clear H a;intro a H
 refine k4 _ ?_;clear k4 K4
 refine wp_block ?_
 replace S := rowsM.zero S 3 (m + 1) (fun _ => 0) (fun _ => 0) M0
 refine loop_st (X := Nat × (Nat → Nat) × (Nat → Nat)) (R0 := _) [1, 2, 3, 8, 18] H rfl (fun ⟨k, rb, rc⟩ => [(19, .int .i64 (k : Int))]) (fun ⟨k, rb, rc⟩ => [ownM 25 1 W (m + 1) (m + 1) (fun i _ => if i < k then rowv rb rc (m + 1) i else .slice none 0 0), rowsM 3 k (m + 1) rb rc (M0)]) (fun g ⟨k, rb, rc⟩ => k ≤ m + 1 ∧ g + k = m + 1) (m + 1) (0, (fun _ => 0), (fun _ => 0)) ?_ (S.sel [1, 0, 2] rfl rfl) (H.keep [19, 1, 2, 3, 8, 18] rfl) ?_
 · exact ⟨by omega, by omega⟩
 clear H S a
 intro g1 x1 a w1 hp S H K5 k5
 obtain ⟨k, rb, rc⟩ := x1
 dsimp only at hp S H
 refine sS H fun K6 k6=>sr 1 rfl <| sE ?_;clear H a;intro a H
 refine k6 _ ?_;clear k6 K6
 refine wp_seq_k fun K7 k7 => ?_
 refine condL H rfl (fun hc1 => ?_) (fun hc1 => ?_)
 ·skip
  refine wp_skip ?_
  refine k7 _ _ ?_
  refine wp_seq_k fun K8 k8 => ?_
  refine wp_block ?_
  refine sS H fun K9 k9=>sr 2 rfl <| sE ?_;clear H a;intro a H
  refine k9 _ ?_;clear k9 K9
  replace H := H.keep [1, 2, 3, 8, 9, 18, 19] rfl
  refine seq_list fun K10 k10 => ?_
  refine ls 2 H <| sr 2 rfl <| sE ?_;clear H a;intro a H
  refine list_build' H rfl S sl_25 sz_3 ze_3 rfl rfl rfl rfl rfl rfl rfl rfl rfl ?_;clear H a S;intro A2 _ a hA2 S H
  refine ls 3 H <| sf fo_23_0 rfl <| sl S 3 one_3 rfl rfl rfl <| sd (does_add rfl rfl (by unfold i64ok; omega)) <| sE ?_;clear H a;intro a H
  refine list_call H rfl rfl Try.func74 rfl rfl (slices_Repeat _ _ wide (m + 1) _ ((ownM.inS S (i := 0) rfl).congr (fun k j hk hj => getD2 hk hj)) (by omega) (by omega)) ?_;clear H a
  rintro _ _ a ⟨b, rfl, S2⟩ H
  replace S := S.call S2;clear S2
  refine ls 1 H <| si sl_99 sz_25 rfl rfl (ownM.adr S (i := 2) rfl (by omega)) (by omega) <| sE ?_;clear H a;intro a H
  refine list_store_own H S (i := 2) rfl rfl rfl (by omega) (by omega) sz_25 rfl ?_
  clear H a S;intro _ a S H
  replace S := (S.sel [0, 3, 2, 4] rfl rfl)
  obtain ⟨b', hb', S3⟩ := rowsM.add S (by intro h; cases h) (f := fun _ => wide) (fun j hj => rfl)
  cases hb'
  replace S := S3; clear S3
  have S := S.recell (i := 1) rfl (cell' := fun i _ => if i < k + 1 then rowv (updN rb k b) (updN rc k (m + 1)) (m + 1) i else .slice none 0 0) (fun k' j hk hj => by
    unfold cput rowv updN; (try dsimp only)
    by_cases h1 : k' = k
    · subst h1; rw [if_pos ⟨rfl, by omega⟩]; simp
    · rw [if_neg (by omega), if_neg h1, if_neg h1]; by_cases h2 : k' < k
      · rw [if_pos h2, if_pos (by omega)]
      · rw [if_neg h2, if_neg (by omega)])
  refine k10 _ _ ?_;clear k10 K10
  replace H := H.keep [1, 2, 3, 8, 9, 18, 19] rfl
  refine one_list ?_
  refine ls 6 H <| sr 2 rfl <| si sl_99 sz_25 rfl rfl (ownM.adr S (i := 1) rfl (by omega)) (by omega) <| sd (does_load one_25 rfl (by have h9 := ownM.rd S (i := 1) (k := k) (j := 0) rfl (by omega) (by omega); (try dsimp only at h9); rw [if_pos (by omega)] at h9; exact h9)) <| sr 1 rfl <| si sl_25 sz_3 rfl rfl (rfl) (by omega) <| sE ?_;clear H a;intro a H
  refine list_store_row H S (i := 0) (p := k) (q := k) rfl rfl rfl (by omega) (by omega) sz_3 ?_
  clear H a S;intro _ a S H
  replace S := rowsM.congr S (i := 0) (M' := M0) rfl (fun x y hx hy => by unfold mset mrow M0; by_cases h1 : x = k <;> by_cases h2 : y = k <;> (try subst h1) <;> (try subst h2) <;> simp [*] <;> (try (intro h3; exact absurd h3.symm (by assumption))) <;> omega) (fun _ _ => rfl) (fun _ _ => rfl)
  refine k8 _ _ ?_
  refine sO H <| sd (does_add rfl rfl (by unfold i64ok; omega)) <| sr 1 rfl <| sE ?_;clear H a;intro a H
  exact k5 (g1 - 1) (k + 1, updN rb k b, updN rc k (m + 1)) a _ (by omega) (by omega) (S.sel [1, 0, 2] rfl rfl) (H.keep [19, 1, 2, 3, 8, 18] rfl)
 refine wp_exit ?_
 refine k3 _ _ ?_
 refine wp_seq_k fun K13 k13 => ?_
 replace H := H.keep [1, 2, 3, 8] rfl
 refine sS H fun K14 k14=>sf fo_23_0 rfl <| sl S 2 one_3 rfl rfl rfl <| sr 1 rfl <| sE ?_;clear H a;intro a H
 refine k14 _ ?_;clear k14 K14
 refine wp_block ?_
 replace S := S.recell (i := 0) rfl (cell' := fun i _ => rowv rb rc (m + 1) i) (fun k' j hk _ => by (try dsimp only); rw [if_pos (by omega)])
 have hk1 : m + 1 = k := by omega
 subst hk1
 refine loop_st (X := Nat) (R0 := _) [1, 2, 3, 8, 38] H rfl (fun k => [(39, .int .i64 (k : Int))]) (fun k => [rowsM 3 (m + 1) (m + 1) rb rc (linksTo ⟨(m : Int), pitch, limit⟩ k)]) (fun g k => k ≤ m ∧ g + k = m) (m) 0 ?_ (S.sel [1, 0, 2] rfl rfl) (H.keep [39, 1, 2, 3, 8, 38] rfl) ?_
 · exact ⟨by omega, by omega⟩
 clear H S a
 intro g2 x2 a w2 hp S H K15 k15
 obtain ⟨k, rfl⟩ : ∃ y, y = x2 := ⟨_, rfl⟩
 refine sS H fun K16 k16=>sr 1 rfl <| sE ?_;clear H a;intro a H
 refine k16 _ ?_;clear k16 K16
 refine wp_seq_k fun K17 k17 => ?_
 refine condL H rfl (fun hc2 => ?_) (fun hc2 => ?_)
 ·skip
  refine wp_skip ?_
  refine k17 _ _ ?_
  refine wp_seq_k fun K18 k18 => ?_
  refine wp_block ?_
  refine sS H fun K19 k19=>sr 2 rfl <| sE ?_;clear H a;intro a H
  refine k19 _ ?_;clear k19 K19
  replace H := H.keep [1, 2, 3, 8, 10, 38, 39] rfl
  refine one_list ?_
  refine ls 9 H <| sr 3 rfl <| sd (does_add rfl rfl (by unfold i64ok; omega)) <| sf fo_23_1 rfl <| sl S 2 one_3 rfl rfl rfl <| sf fo_23_2 rfl <| sl S 2 one_3 rfl rfl rfl <| sd (does_build bt_36 rfl rfl) <| sE ?_;clear H a;intro a H
  have S1 := (S.sel [1, 0] rfl rfl)
  refine list_call H rfl rfl Try.func75 rfl rfl (web_tighten (m + 1) (m + 1) W rb rc (linksTo ⟨(m : Int), pitch, limit⟩ k) k (k + 1) pitch limit _ _ S1.startR (by omega) (by omega) (by omega) (linksTo_ok hc0 (n := m + 1) (by omega) k (by omega)).1.bdd (by omega) (by omega)) ?_;clear H a
  rintro _ _ a ⟨rfl, S2⟩ H
  replace S := (S.sel [1, 0, 2] rfl rfl).callR (M := [_, _]) S2; clear S1 S2
  refine k18 _ _ ?_
  replace H := H.keep [1, 2, 3, 8, 38, 39] rfl
  refine sO H <| sd (does_add rfl rfl (by unfold i64ok; omega)) <| sr 1 rfl <| sE ?_;clear H a;intro a H
  exact k15 (g2 - 1) (k + 1) a _ (by omega) (by omega) (S.sel [1, 0, 2] rfl rfl) (H.keep [39, 1, 2, 3, 8, 38] rfl)
 refine wp_exit ?_
 refine k13 _ _ ?_
 refine wp_seq_k fun K22 k22 => ?_
 refine sS H fun K23 k23=>sr 1 rfl <| sL sl_24 rfl <| sr 1 rfl <| sE ?_;clear H a;intro a H
 refine k23 _ ?_;clear k23 K23
 refine wp_block ?_
 have hk2 : m = k := by omega
 subst hk2
 refine loop_st (X := Nat × IM) (R0 := _) [2, 8, 53, 54] H rfl (fun ⟨k, M⟩ => [(55, .int .i64 (k : Int))]) (fun ⟨k, M⟩ => [rowsM 3 (m + 1) (m + 1) rb rc (M)]) (fun g ⟨k, M⟩ => k ≤ l.length ∧ g + k = l.length ∧ gto (m + 1) l p (linksTo ⟨(m : Int), pitch, limit⟩ m) k = some M) (l.length) (0, linksTo ⟨(m : Int), pitch, limit⟩ m) ?_ (S.sel [0, 1, 2] rfl rfl) (H.keep [55, 2, 8, 53, 54] rfl) ?_
 · exact ⟨by omega, by omega, rfl⟩
 clear H S a
 intro g3 x3 a w3 hp S H K24 k24
 obtain ⟨k, M⟩ := x3
 dsimp only at hp S H
 refine sS H fun K25 k25=>sr 1 rfl <| sE ?_;clear H a;intro a H
 refine k25 _ ?_;clear k25 K25
 refine wp_seq_k fun K26 k26 => ?_
 refine condL H rfl (fun hc3 => ?_) (fun hc3 => ?_)
 ·skip
  refine wp_skip ?_
  refine k26 _ _ ?_
  refine wp_seq_k fun K27 k27 => ?_
  refine wp_block ?_
  have hG : Good (m + 1) M := gto_good (c := ⟨(m : Int), pitch, limit⟩) (linksTo_ok hc0 (n := m + 1) (by omega) m (by omega)).1 hg k M (by omega) hp.2.2
  have hgk := getD_ok hg (show k < l.length by omega)
  unfold gaugeOk at hgk; simp only [decide_eq_true_eq] at hgk
  refine seq_list fun K28 k28 => ?_
  refine ls 3 H <| sr 1 rfl <| si sl_24 sz_41 rfl rfl (hl.adr (by omega)) (by omega) <| sd ((does_loadIn agg_41 sz_41 rfl S hl (by omega) (by omega))) <| sE ?_;clear H a;intro a H
  refine list_alloc H rfl S ze_41 ?_;clear H a S;intro b12 _ a hb12 hbw12 S H
  refine ls 1 H <| sr 1 rfl <| sE ?_;clear H a;intro a H
  refine list_store H S (i := 0) rfl rfl rfl rfl sz_41 rfl rfl ?_
  clear H a S;intro _ a S H
  refine k28 _ _ ?_;clear k28 K28
  replace H := H.keep [2, 8, 11, 12, 53, 54, 55] rfl
  refine seq_list fun K29 k29 => ?_
  refine ls 2 H <| sr 2 rfl <| sE ?_;clear H a;intro a H
  refine list_callv (fs := []) (cs := caps) (vs := [.int .i64 (k : Int)]) H rfl rfl rfl hf hfb hfn (hcall k _ (by omega) S.keeps) ?_; clear H a; rintro _ _ a ⟨rfl, rfl⟩ H
  refine ls 1 H <| sr 1 rfl <| sE ?_;clear H a;intro a H
  cases hg4 : p k
  case false =>
   rw [hg4] at H
   refine ls 10 H <| sn rfl rfl rfl <| sn rfl rfl rfl <| sn rfl rfl rfl <| sn rfl rfl rfl <| sn rfl rfl rfl <| sn rfl rfl rfl <| sn rfl rfl rfl <| sn rfl rfl rfl <| sn rfl rfl rfl <| sd ((does_pick rfl rfl rfl)) <| sE ?_;clear H a;intro a H
   refine k29 _ _ ?_;clear k29 K29
   refine cond_ H rfl (fun hc4 => ?_) (fun hc4 => ?_)
   ·skip
    skip
    cases hc4
   skip
   refine wp_skip ?_
   refine k27 _ _ ?_
   replace H := H.keep [2, 8, 53, 54, 55] rfl
   refine sO H <| sd (does_add rfl rfl (by unfold i64ok; omega)) <| sr 1 rfl <| sE ?_;clear H a;intro a H
   exact k24 (g3 - 1) (k + 1, _) a _ (by omega) (⟨by omega, by omega, by first | exact gto_skip hp.2.2 hg4 | exact gto_on hp.2.2 hg4 (by simpa using hc5)⟩) (S.sel [1, 2, 3] rfl rfl) (H.keep [55, 2, 8, 53, 54] rfl)
  case true =>
   rw [hg4] at H
   refine ls 7 H <| sy rfl <| sr 1 rfl <| sy rfl <| sf fo_41_0 rfl <| sy rfl <| sl S 0 one_3 rfl rfl rfl <| sy rfl <| sf fo_41_1 rfl <| sy rfl <| sl S 0 one_3 rfl rfl rfl <| sy rfl <| sf fo_41_2 rfl <| sy rfl <| sd ((does_loadBox agg_36 sz_36 rfl S (i := 0) rfl rfl)) <| sE ?_;clear H a;intro a H
   refine list_yes H rfl rfl ?_
   have S1 := (S.sel [2, 1] rfl rfl)
   refine list_call H rfl rfl Try.func75 rfl rfl (web_tightenI (m + 1) (m + 1) W rb rc M (l.getD k Gauge.zero).fr (l.getD k Gauge.zero).to (l.getD k Gauge.zero).lo (l.getD k Gauge.zero).hi _ _ S1.startR (by omega) (by omega) (by omega) (by omega) (by omega) hG.bdd (by omega) (by omega)) ?_;clear H a
   rintro _ _ a ⟨rfl, S2⟩ H
   replace S := (S.sel [2, 1, 0, 3] rfl rfl).callR (M := [_, _]) S2; clear S1 S2
   refine ls 2 H <| sy rfl <| sr 1 rfl <| sa rfl rfl rfl <| sE ?_;clear H a;intro a H
   refine k29 _ _ ?_;clear k29 K29
   refine cond_ H rfl (fun hc5 => ?_) (fun hc5 => ?_)
   ·skip
    try simp only [o1,o2,o3,o4,o5,o6,o7,o8,o9,oa] at hc5
    refine sS H fun K31 k31=>sr 2 rfl <| sE ?_;clear H a;intro a H
    refine k31 _ ?_;clear k31 K31
    refine wp_ret ?_
    refine ret2 (fn := Try.f53) rfl H rfl rfl ?_
    have e : weaveW ⟨(m : Int), pitch, limit⟩ l p = none := gto_fail (n := m + 1) (by omega) hp.2.2 hg4 (by simpa using hc5)
    show Woven _ _ _ _ _; rw [e]; exact ⟨rfl, (S.sel [] rfl rfl)⟩
   try simp only [o1,o2,o3,o4,o5,o6,o7,o8,o9,oa] at hc5
   refine wp_skip ?_
   refine k27 _ _ ?_
   refine sO H <| sd (does_add rfl rfl (by unfold i64ok; omega)) <| sr 1 rfl <| sE ?_;clear H a;intro a H
   exact k24 (g3 - 1) (k + 1, _) a _ (by omega) (⟨by omega, by omega, by first | exact gto_skip hp.2.2 hg4 | exact gto_on hp.2.2 hg4 (by simpa using hc5)⟩) (S.sel [1, 0, 3] rfl rfl) (H.keep [55, 2, 8, 53, 54] rfl)
 refine wp_exit ?_
 refine k22 _ _ ?_
 refine sS H fun K33 k33=>sr 3 rfl <| sE ?_;clear H a;intro a H
 refine k33 _ ?_;clear k33 K33
 refine wp_ret ?_
 refine ret2 (fn := Try.f53) rfl H rfl rfl ?_
 have hk3 : k = l.length := by omega
 have e : weaveW ⟨(m : Int), pitch, limit⟩ l p = some M := by
   show gto (m + 1) l p (linksTo ⟨(m : Int), pitch, limit⟩ m) l.length = some M
   rw [← hk3]; exact hp.2.2
 show Woven _ _ _ _ _; rw [e]; exact ⟨W, rb, rc, rfl, (S.sel [1, 0] rfl rfl)⟩

end Go.Proofs.Ytdepakimbagonaa
