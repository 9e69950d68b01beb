/- CiA. Printed by gen.py. -/
import Derived.Test.YtdepakimbagonaaFacts
import Derived.Test.YtdepakimbagonaaE2
import Derived.Test.YtdepakimbagonaaCir
import Derived.Test.YtdepakimbagonaaE1
import Derived.Test.YtdepakimbagonaaE3
namespace Go.Proofs.Ytdepakimbagonaa
open Go.RowKit
set_option linter.unusedVariables false
set_option linter.unusedSimpArgs false
set_option maxRecDepth 100000
set_option maxHeartbeats 4000000


theorem St.back {w0 w w' : World} {F0 : Nat → Prop} {m : Mem} (S : St w0 F0 [m] w) (S' : St w (fps [m]) [m] w') : St w0 F0 [m] w' := St.callR (M := [m]) (R := []) S S'
theorem ret_impC {P : Program} {f : Nat} {vs : Array Value} {w : World} {R R' : Value → World → Prop} (h : Calls P f vs w (Ret R)) (k : ∀ v w', R v w' → R' v w') : Calls P f vs w (Ret R') := Calls.mono h fun e w' he => by
  cases e with
  | returned v => exact k v w' he
  | _ => exact he


theorem cir_IndexFunc (l : List Int) (A : Option Addr) (cp : Nat) (f : Nat) (fn : Func) (fs cs : List Value) (p : Int → Bool) (m : Mem) (w : World) (F : Nat → Prop) (S : St w F [m] w) (hl : InS w F 1 A l.length (icl l)) (hn : l.length ≤ 9223372036854775807) (hf : Try.prog.funcs[f]? = some fn) (hfb : fn.body.isNone = false) (hfn : (fn.name == "runtime.NumGoroutine") = false) (hcall : ∀ (k : Nat) (w' : World), k < l.length → St w F [m] w' → Calls Try.prog f (fs ++ [Value.int .i64 (l.getD k 0)] ++ cs).toArray w' (Ret fun v w'' => v = .bool (p (l.getD k 0)) ∧ St w' (fps [m]) [m] w'')) :
    Calls Try.prog 92 [.slice A l.length cp, .func (.func f) fs.toArray cs.toArray].toArray w (Ret (fun u w' => ∃ n : Int, u = .int .i64 n ∧ decide (0 ≤ n) = l.any p ∧ St w F [m] w')) := by
 refine enter Try.func92 rfl Try.ntmps92 rfl (fun a H => ?_)
 skip
 refine sS H fun K1 k1=>sr 1 rfl <| sE ?_;clear H a;intro a H
 refine k1 _ ?_;clear k1 K1
 refine wp_seq_k fun K2 k2 => ?_
 refine sS H fun K3 k3=>sr 1 rfl <| sL sl_25 rfl <| sr 1 rfl <| sE ?_;clear H a;intro a H
 refine k3 _ ?_;clear k3 K3
 refine wp_block ?_
 refine loop_st (X := Nat) (R0 := _) [0, 1, 7] H rfl (fun k => [(8, .int .i64 (k : Int))]) (fun k => [m]) (fun g k => k ≤ l.length ∧ g + k = l.length ∧ (l.take k).any p = false) (l.length) 0 ?_ (S.sel [0] rfl rfl) (H.keep [8, 0, 1, 7] rfl) ?_
 · exact ⟨by omega, by omega, by simp⟩
 clear H S a
 intro g1 x1 a w1 hp S H K4 k4
 obtain ⟨k, rfl⟩ : ∃ y, y = x1 := ⟨_, rfl⟩
 refine sS H fun K5 k5=>sr 1 rfl <| sE ?_;clear H a;intro a H
 refine k5 _ ?_;clear k5 K5
 refine wp_seq_k fun K6 k6 => ?_
 refine condL H rfl (fun hc1 => ?_) (fun hc1 => ?_)
 ·skip
  refine wp_skip ?_
  refine k6 _ _ ?_
  refine wp_seq_k fun K7 k7 => ?_
  refine wp_block ?_
  refine sS H fun K8 k8=>sr 2 rfl <| sE ?_;clear H a;intro a H
  refine k8 _ ?_;clear k8 K8
  refine seq_list fun K9 k9 => ?_
  refine ls 5 H <| sr 3 rfl <| si sl_25 sz_3 rfl rfl (hl.adr (by omega)) (by omega) <| slm one_3 rfl (hl.rd S (by omega) (by omega)) <| sE ?_;clear H a;intro a H
  have S1 := (S.sel [0] rfl rfl)
  refine list_callv (fs := fs) (cs := cs) (vs := [.int .i64 (l.getD k 0)]) H rfl rfl rfl hf hfb hfn (hcall k _ (by omega) S1) ?_;clear H a
  rintro _ _ a ⟨rfl, S2⟩ H
  replace S := (S.sel [0] rfl rfl).callR (M := [_]) S2; clear S1 S2
  refine k9 _ _ ?_;clear k9 K9
  refine cond_ H rfl (fun hc2 => ?_) (fun hc2 => ?_)
  ·skip
   try simp only [o1,o2,o3,o4,o5,o6,o7,o8,o9,oa] at hc2
   replace H := H.keep [5] rfl
   refine sS H fun K10 k10=>sr 2 rfl <| sE ?_;clear H a;intro a H
   refine k10 _ ?_;clear k10 K10
   refine wp_ret ?_
   refine ret1 (fn := Try.f92) rfl H rfl ?_
   exact ⟨_, rfl, by rw [any_atC (k := k) (by omega) (by simpa using hc2)]; simp, (S.sel [0] rfl rfl)⟩
  try simp only [o1,o2,o3,o4,o5,o6,o7,o8,o9,oa] at hc2
  refine wp_skip ?_
  refine k7 _ _ ?_
  refine sO H <| sd (does_add rfl rfl (by unfold i64ok; omega)) <| sr 1 rfl <| sE ?_;clear H a;intro a H
  exact k4 (g1 - 1) (k + 1) a _ (by omega) (⟨by omega, by omega, any_takeC (by omega) hp.2.2 (by simpa using hc2)⟩) (S.sel [0] rfl rfl) (H.keep [8, 0, 1, 7] rfl)
 refine wp_exit ?_
 refine k2 _ _ ?_
 refine sS H fun K12 k12=>sr 1 rfl <| sE ?_;clear H a;intro a H
 refine k12 _ ?_;clear k12 K12
 refine wp_ret ?_
 refine ret1 (fn := Try.f92) rfl H rfl ?_
 refine ⟨_, rfl, ?_, (S.sel [0] rfl rfl)⟩; rw [List.take_of_length_le (by omega)] at hp; rw [hp.2.2]; rfl

theorem cir_ContainsFunc (l : List Int) (A : Option Addr) (cp : Nat) (f : Nat) (fn : Func) (fs cs : List Value) (p : Int → Bool) (m : Mem) (w : World) (F : Nat → Prop) (S : St w F [m] w) (hl : InS w F 1 A l.length (icl l)) (hn : l.length ≤ 9223372036854775807) (hf : Try.prog.funcs[f]? = some fn) (hfb : fn.body.isNone = false) (hfn : (fn.name == "runtime.NumGoroutine") = false) (hcall : ∀ (k : Nat) (w' : World), k < l.length → St w F [m] w' → Calls Try.prog f (fs ++ [Value.int .i64 (l.getD k 0)] ++ cs).toArray w' (Ret fun v w'' => v = .bool (p (l.getD k 0)) ∧ St w' (fps [m]) [m] w'')) :
    Calls Try.prog 81 [.slice A l.length cp, .func (.func f) fs.toArray cs.toArray].toArray w (Ret (fun u w' => u = .bool (l.any p) ∧ St w F [m] w')) := by
 refine enter Try.func81 rfl Try.ntmps81 rfl (fun a H => ?_)
 skip
 refine sS H fun K1 k1=>sr 1 rfl <| sE ?_;clear H a;intro a H
 refine k1 _ ?_;clear k1 K1
 refine seq_list fun K2 k2 => ?_
 refine ls 2 H <| sr 2 rfl <| sE ?_;clear H a;intro a H
 have S1 := (S.sel [0] rfl rfl)
 refine list_call H rfl rfl Try.func92 rfl rfl (cir_IndexFunc l A cp f fn fs cs p m _ _ S1.startR (hl.nowR S1) hn hf hfb hfn (fun k w' hk S' => hcall k w' hk (St.back S1 S'))) ?_;clear H a
 rintro _ _ a ⟨n9, rfl, hn9, S2⟩ H
 replace S := (S.sel [0] rfl rfl).callR (M := [_]) S2; clear S1 S2
 refine ls 2 H <| sr 2 rfl <| sE ?_;clear H a;intro a H
 refine k2 _ _ ?_;clear k2 K2
 refine wp_ret ?_
 refine ret1 (fn := Try.f81) rfl H rfl ?_
 exact ⟨congrArg Value.bool hn9, (S.sel [0] rfl rfl)⟩

theorem cir_conducts (hz : Int) (sw : List Int) (SA : Option Addr) (sc : Nat) (ws : List Wr) (QA : Option Addr) (qc : Nat) (OA : Nat → Option Addr) (oc : Nat → Nat) (ha cl op : Int) (x : Int) (w : World) (F : Nat → Prop) (hsw : InS w noF 1 SA sw.length (icl sw)) (V : CirV hz sw ws) (hha : 0 ≤ ha ∧ ha ≤ 4095) (hcl : 0 ≤ cl ∧ cl ≤ 4095) (hop : 0 ≤ op ∧ op ≤ 4095) (hx : 0 ≤ x ∧ x < sw.length) :
    Calls Try.prog 86 [.agg [.int .i64 hz, .slice SA sw.length sc, .slice QA ws.length qc, .int .i64 ha, .int .i64 cl, .int .i64 op].toArray, .int .i64 x].toArray w (Ret (fun u w' => u = .bool (condB sw ha cl op x) ∧ St w noF [] w')) := by
 have hn12 := V.nsw
 have hsb := V.swb x.toNat (by omega)
 refine enter Try.func86 rfl Try.ntmps86 rfl (fun a H => ?_)
 have S := St.start w
 refine seq_list fun K1 k1 => ?_
 refine list_box H rfl S rfl rfl ?_;clear H a S;intro b2 _ a hb2 hbw2 S H
 refine ls 1 H <| sr 1 rfl <| sE ?_;clear H a;intro a H
 refine k1 _ _ ?_;clear k1 K1
 replace H := H.keep [1, 2] rfl
 replace S := S.drew
 refine sD H fun K2 k2=>sf fo_153_3 rfl <| sl S 0 one_3 rfl rfl rfl <| sr 1 rfl <| sd (does_shr rfl rfl (by omega) (by omega)) <| sd (does_and1 rfl rfl) <| sr 2 rfl <| sg 18 6 11 29 true rfl rfl (fun hg7 => by
     have hq7 := hg7;try simp only [o1,o2,o3,o4,o5,o6,o7,o8,o9,oa] at hq7
     exact sy hg7 <| sf fo_153_2 rfl <| sy hg7 <| sl S 0 one_3 rfl rfl rfl <| sy hg7 <| sr 1 rfl <| sy hg7 <| sd (does_shr rfl rfl (by omega) (by omega)) <| sy hg7 <| sd (does_and1 rfl rfl) <| sy hg7 <| sr 1 rfl <| sy hg7 <| sr 1 rfl <| sg 10 13 18 28 false rfl rfl (fun hg14 => by
          have hq14 := hg14;try simp only [o1,o2,o3,o4,o5,o6,o7,o8,o9,oa] at hq14
          exact sy hg14 <| sf fo_153_0 rfl <| sy hg14 <| sf fo_85_1 rfl <| sy hg14 <| sl S 0 one_25 rfl rfl rfl <| sy hg14 <| sr 1 rfl <| sy hg14 <| sI sl_25 sz_3 rfl rfl (hsw.adr (by omega)) (by omega) (by omega) <| sy hg14 <| slm one_3 rfl (hsw.rd S (by omega) (by omega)) <| sy hg14 <| sf fo_153_1 rfl <| sy hg14 <| sl S 0 one_3 rfl rfl rfl <| sy hg14 <| sd (does_land rfl rfl (by omega) (by omega)) <| sy hg14 <| sr 1 rfl <| sz 10 rfl rfl rfl) <| sy hg7 <| so rfl rfl rfl <| sz 9 rfl rfl rfl) <| sa rfl rfl rfl <| sr 1 rfl <| sE ?_;clear H a;intro a H
 refine k2 _ ?_;clear k2 K2
 refine wp_ret ?_
 refine ret1 (fn := Try.f86) rfl H rfl ?_
 exact ⟨rfl, (S.sel [] rfl rfl)⟩

theorem cir_wire1 (hz : Int) (sw : List Int) (SA : Option Addr) (sc : Nat) (ws : List Wr) (QA : Option Addr) (qc : Nat) (OA : Nat → Option Addr) (oc : Nat → Nat) (ha cl op : Int) (n sb : Nat) (x : Int) (w : World) (F : Nat → Prop) (S : St w F [boxM sb 153 [.int .i64 hz, .slice SA sw.length sc, .slice QA ws.length qc, .int .i64 ha, .int .i64 cl, .int .i64 op]] w) (hsw : InS w F 1 SA sw.length (icl sw)) (hws : InS w F 2 QA ws.length (wrcell ws OA oc)) (hof : ∀ k, k < ws.length → InS w F 1 (OA k) (ws.getD k Wr.zero).of.length (icl (ws.getD k Wr.zero).of)) (hx : 0 ≤ x ∧ x < ws.length) (hxn : ws.length - x.toNat ≤ n) (ih : ∀ (x : Int) (w : World), 0 ≤ x ∧ x < ws.length → ws.length - x.toNat ≤ n → InS w noF 1 SA sw.length (icl sw) → InS w noF 2 QA ws.length (wrcell ws OA oc) → (∀ k, k < ws.length → InS w noF 1 (OA k) (ws.getD k Wr.zero).of.length (icl (ws.getD k Wr.zero).of)) → Calls Try.prog 72 [.agg [.int .i64 hz, .slice SA sw.length sc, .slice QA ws.length qc, .int .i64 ha, .int .i64 cl, .int .i64 op].toArray, .int .i64 x].toArray w (Ret fun u w' => u = .bool (wireB sw ws ha cl op n x.toNat) ∧ St w noF [] w')) :
    Calls Try.prog 87 [.int .i64 x, .pointer (some ⟨sb, 0, none⟩)].toArray w (Ret (fun u w' => u = .bool (!wireB sw ws ha cl op n x.toNat) ∧ St w F [boxM sb 153 [.int .i64 hz, .slice SA sw.length sc, .slice QA ws.length qc, .int .i64 ha, .int .i64 cl, .int .i64 op]] w')) := by
 refine enter Try.func87 rfl Try.ntmps87 rfl (fun a H => ?_)
 skip
 refine sS H fun K1 k1=>sr 1 rfl <| sE ?_;clear H a;intro a H
 refine k1 _ ?_;clear k1 K1
 refine seq_list fun K2 k2 => ?_
 refine ls 2 H <| sd ((does_loadBox agg_153 sz_153 rfl S (i := 0) rfl rfl)) <| sr 1 rfl <| sE ?_;clear H a;intro a H
 refine list_call H rfl rfl Try.func72 rfl rfl (ih x _ hx hxn (hsw.now S) (hws.now S) (fun k hk => (hof k hk).now S)) ?_;clear H a
 rintro _ _ a ⟨rfl, S2⟩ H
 replace S := S.call S2;clear S2
 refine ls 2 H <| sr 2 rfl <| sE ?_;clear H a;intro a H
 refine k2 _ _ ?_;clear k2 K2
 refine wp_ret ?_
 refine ret1 (fn := Try.f87) rfl H rfl ?_
 exact ⟨rfl, (S.sel [0] rfl rfl)⟩

theorem cir_CF1 (hz : Int) (sw : List Int) (SA : Option Addr) (sc : Nat) (ws : List Wr) (QA : Option Addr) (qc : Nat) (OA : Nat → Option Addr) (oc : Nat → Nat) (ha cl op : Int) (n : Nat) (y : Int) (sb : Nat) (w : World) (F : Nat → Prop) (S : St w F [boxM sb 153 [.int .i64 hz, .slice SA sw.length sc, .slice QA ws.length qc, .int .i64 ha, .int .i64 cl, .int .i64 op]] w) (hsw : InS w F 1 SA sw.length (icl sw)) (hws : InS w F 2 QA ws.length (wrcell ws OA oc)) (hof : ∀ k, k < ws.length → InS w F 1 (OA k) (ws.getD k Wr.zero).of.length (icl (ws.getD k Wr.zero).of)) (V : CirV hz sw ws) (hy : 0 ≤ y ∧ y < ws.length) (hyn : ws.length - y.toNat ≤ n + 1) (hc1 : ¬ (ws.getD y.toNat Wr.zero).kind = 1) (ih : ∀ (x : Int) (w : World), 0 ≤ x ∧ x < ws.length → ws.length - x.toNat ≤ n → InS w noF 1 SA sw.length (icl sw) → InS w noF 2 QA ws.length (wrcell ws OA oc) → (∀ k, k < ws.length → InS w noF 1 (OA k) (ws.getD k Wr.zero).of.length (icl (ws.getD k Wr.zero).of)) → Calls Try.prog 72 [.agg [.int .i64 hz, .slice SA sw.length sc, .slice QA ws.length qc, .int .i64 ha, .int .i64 cl, .int .i64 op].toArray, .int .i64 x].toArray w (Ret fun u w' => u = .bool (wireB sw ws ha cl op n x.toNat) ∧ St w noF [] w')) : Calls Try.prog 81 #[.slice (OA y.toNat) (ws.getD y.toNat Wr.zero).of.length (oc y.toNat), .func (.func 72) #[.agg [.int .i64 hz, .slice SA sw.length sc, .slice QA ws.length qc, .int .i64 ha, .int .i64 cl, .int .i64 op].toArray] #[]] w (Ret fun u w' => u = .bool ((ws.getD y.toNat Wr.zero).of.any (fun k => wireB sw ws ha cl op n k.toNat)) ∧ St w F [boxM sb 153 [.int .i64 hz, .slice SA sw.length sc, .slice QA ws.length qc, .int .i64 ha, .int .i64 cl, .int .i64 op]] w') := by
  have hmo := V.more y.toNat (by omega)
  have hln := (hmo hc1).1
  have hnw := V.nws
  have hh := cir_ContainsFunc (ws.getD y.toNat Wr.zero).of (OA y.toNat) (oc y.toNat) 72 _ [.agg [.int .i64 hz, .slice SA sw.length sc, .slice QA ws.length qc, .int .i64 ha, .int .i64 cl, .int .i64 op].toArray] [] (fun k => wireB sw ws ha cl op n k.toNat) _ w F S (hof y.toNat (by omega)) (by omega) Try.func72 rfl rfl (fun k w' hk S' => by
    have h9 := (hmo hc1).2 k hk
    have S9 := S'
    exact ret_impC (ih ((ws.getD y.toNat Wr.zero).of.getD k 0) w' (by omega) (by omega) (hsw.now S9) (hws.now S9) (fun q hq => (hof q hq).now S9)) fun v w'' h => ⟨h.1, S'.startR.call h.2⟩)
  exact hh
theorem cir_CF2 (hz : Int) (sw : List Int) (SA : Option Addr) (sc : Nat) (ws : List Wr) (QA : Option Addr) (qc : Nat) (OA : Nat → Option Addr) (oc : Nat → Nat) (ha cl op : Int) (n : Nat) (y : Int) (sb : Nat) (w : World) (F : Nat → Prop) (S : St w F [boxM sb 153 [.int .i64 hz, .slice SA sw.length sc, .slice QA ws.length qc, .int .i64 ha, .int .i64 cl, .int .i64 op]] w) (hsw : InS w F 1 SA sw.length (icl sw)) (hws : InS w F 2 QA ws.length (wrcell ws OA oc)) (hof : ∀ k, k < ws.length → InS w F 1 (OA k) (ws.getD k Wr.zero).of.length (icl (ws.getD k Wr.zero).of)) (V : CirV hz sw ws) (hy : 0 ≤ y ∧ y < ws.length) (hyn : ws.length - y.toNat ≤ n + 1) (hc1 : ¬ (ws.getD y.toNat Wr.zero).kind = 1) (ih : ∀ (x : Int) (w : World), 0 ≤ x ∧ x < ws.length → ws.length - x.toNat ≤ n → InS w noF 1 SA sw.length (icl sw) → InS w noF 2 QA ws.length (wrcell ws OA oc) → (∀ k, k < ws.length → InS w noF 1 (OA k) (ws.getD k Wr.zero).of.length (icl (ws.getD k Wr.zero).of)) → Calls Try.prog 72 [.agg [.int .i64 hz, .slice SA sw.length sc, .slice QA ws.length qc, .int .i64 ha, .int .i64 cl, .int .i64 op].toArray, .int .i64 x].toArray w (Ret fun u w' => u = .bool (wireB sw ws ha cl op n x.toNat) ∧ St w noF [] w')) : Calls Try.prog 81 #[.slice (OA y.toNat) (ws.getD y.toNat Wr.zero).of.length (oc y.toNat), .func (.func 87) #[] #[.pointer (some ⟨sb, 0, none⟩)]] w (Ret fun u w' => u = .bool ((ws.getD y.toNat Wr.zero).of.any (fun k => !wireB sw ws ha cl op n k.toNat)) ∧ St w F [boxM sb 153 [.int .i64 hz, .slice SA sw.length sc, .slice QA ws.length qc, .int .i64 ha, .int .i64 cl, .int .i64 op]] w') := by
  have hmo := V.more y.toNat (by omega)
  have hln := (hmo hc1).1
  have hnw := V.nws
  have hh := cir_ContainsFunc (ws.getD y.toNat Wr.zero).of (OA y.toNat) (oc y.toNat) 87 _ [] [.pointer (some ⟨sb, 0, none⟩)] (fun k => !wireB sw ws ha cl op n k.toNat) _ w F S (hof y.toNat (by omega)) (by omega) Try.func87 rfl rfl (fun k w' hk S' => by
    have h9 := (hmo hc1).2 k hk
    have S9 := S'
    exact cir_wire1 hz sw SA sc ws QA qc OA oc ha cl op n sb ((ws.getD y.toNat Wr.zero).of.getD k 0) w' _ S'.startR (hsw.nowR S9) (hws.nowR S9) (fun q hq => (hof q hq).nowR S9) (by omega) (by omega) ih)
  exact hh


theorem cir_wire_step (hz : Int) (sw : List Int) (SA : Option Addr) (sc : Nat) (ws : List Wr) (QA : Option Addr) (qc : Nat) (OA : Nat → Option Addr) (oc : Nat → Nat) (ha cl op : Int) (n : Nat) (y : Int) (w : World) (hsw : InS w noF 1 SA sw.length (icl sw)) (hws : InS w noF 2 QA ws.length (wrcell ws OA oc)) (hof : ∀ k, k < ws.length → InS w noF 1 (OA k) (ws.getD k Wr.zero).of.length (icl (ws.getD k Wr.zero).of)) (V : CirV hz sw ws) (hha : 0 ≤ ha ∧ ha ≤ 4095) (hcl : 0 ≤ cl ∧ cl ≤ 4095) (hop : 0 ≤ op ∧ op ≤ 4095) (hy : 0 ≤ y ∧ y < ws.length) (hyn : ws.length - y.toNat ≤ n + 1) (ih : ∀ (x : Int) (w : World), 0 ≤ x ∧ x < ws.length → ws.length - x.toNat ≤ n → InS w noF 1 SA sw.length (icl sw) → InS w noF 2 QA ws.length (wrcell ws OA oc) → (∀ k, k < ws.length → InS w noF 1 (OA k) (ws.getD k Wr.zero).of.length (icl (ws.getD k Wr.zero).of)) → Calls Try.prog 72 [.agg [.int .i64 hz, .slice SA sw.length sc, .slice QA ws.length qc, .int .i64 ha, .int .i64 cl, .int .i64 op].toArray, .int .i64 x].toArray w (Ret fun u w' => u = .bool (wireB sw ws ha cl op n x.toNat) ∧ St w noF [] w')) :
    Calls Try.prog 72 [.agg [.int .i64 hz, .slice SA sw.length sc, .slice QA ws.length qc, .int .i64 ha, .int .i64 cl, .int .i64 op].toArray, .int .i64 y].toArray w (Ret (fun u w' => u = .bool (wireB sw ws ha cl op (n + 1) y.toNat) ∧ St w noF [] w')) := by
 have hnw := V.nws
 have hmo := V.more y.toNat (by omega)
 have hon := V.one y.toNat (by omega)
 refine enter Try.func72 rfl Try.ntmps72 rfl (fun a H => ?_)
 have S := St.start w
 refine seq_list fun K1 k1 => ?_
 refine list_box H rfl S rfl rfl ?_;clear H a S;intro b2 _ a hb2 hbw2 S H
 refine ls 1 H <| sr 1 rfl <| sE ?_;clear H a;intro a H
 refine k1 _ _ ?_;clear k1 K1
 replace H := H.keep [1, 2] rfl
 refine seq_list fun K2 k2 => ?_
 refine ls 6 H <| sf fo_153_0 rfl <| sf fo_85_2 rfl <| sl S 0 one_83 rfl rfl rfl <| sr 1 rfl <| sI sl_83 sz_125 rfl rfl (hws.adr (by omega)) (by omega) (by omega) <| sd ((does_loadIn agg_125 sz_125 rfl S hws (by omega) (by omega))) <| sE ?_;clear H a;intro a H
 refine list_alloc H rfl S ze_125 ?_;clear H a S;intro b5 _ a hb5 hbw5 S H
 refine list_store H S (i := 0) rfl rfl rfl rfl sz_125 rfl rfl ?_
 clear H a S;intro _ a S H
 refine k2 _ _ ?_;clear k2 K2
 refine wp_seq_k fun K3 k3 => ?_
 replace H := H.keep [2, 5] rfl
 refine sS H fun K4 k4=>sf fo_125_0 rfl <| sl S 0 one_3 rfl rfl rfl <| sE ?_;clear H a;intro a H
 refine k4 _ ?_;clear k4 K4
 refine wp_block ?_
 refine sS H fun K5 k5=>sr 2 rfl <| sE ?_;clear H a;intro a H
 refine k5 _ ?_;clear k5 K5
 refine condE H rfl (fun hc1 => ?_) (fun hc1 => ?_)
 ·skip
  replace H := H.keep [2, 5] rfl
  replace S := S.drew
  refine seq_wq [(0, true), (1, true), (2, true), (3, true), (4, true), (5, false), (6, true)] (by kernel_rfl) (by kernel_rfl) (S.sel [0, 1] rfl rfl) fun K6 k6 => ?_
  refine qF H <| qd rfl (fun _ S => (does_loadBox agg_153 sz_153 rfl S (i := 1) rfl rfl)) <| qd rfl (fun _ S => (does_field fo_125_1 rfl)) <| qd rfl (fun _ S => does_load one_25 rfl (boxM.rd S (i := 0) rfl rfl)) <| qd rfl (fun _ S => does_index sl_25 sz_3 rfl rfl ((hof y.toNat (by omega)).adr (by omega)) (by omega) (by omega)) <| qd rfl (fun _ S => does_load one_3 rfl ((hof y.toNat (by omega)).rd S (by omega) (by omega))) <| qK ?_;clear H a;intro a H
  refine wq_eff rfl ?_
  refine list_call H rfl rfl Try.func86 rfl rfl (cir_conducts hz sw SA sc ws QA qc OA oc ha cl op ((ws.getD y.toNat Wr.zero).of.getD 0 0) _ noF (hsw.now S) V hha hcl hop (by have := hon hc1; omega)) ?_;clear H a
  rintro _ _ a ⟨rfl, S2⟩ H
  replace S := S.call S2;clear S2
  refine wpList_nil (And.intro (S.sel [0, 1] rfl rfl) ?_)
  refine qF H <| qr 1 rfl <| qK ?_;clear H a;intro a H
  refine wq_nil ?_
  refine k6 _ _ ?_
  clear k6 K6
  refine wp_ret ?_
  refine ret1 (fn := Try.f72) rfl H rfl ?_
  refine ⟨congrArg Value.bool ?_, (S.sel [] rfl rfl)⟩
  rw [wireB, if_pos hc1]
 refine sS H fun K7 k7=>sr 2 rfl <| sE ?_;clear H a;intro a H
 refine k7 _ ?_;clear k7 K7
 refine condE H rfl (fun hc2 => ?_) (fun hc2 => ?_)
 ·skip
  replace H := H.keep [2, 5] rfl
  refine seq_list fun K8 k8 => ?_
  refine ls 4 H <| sf fo_125_1 rfl <| sl S 0 one_25 rfl rfl rfl <| sd ((does_loadBox agg_153 sz_153 rfl S (i := 1) rfl rfl)) <| sr 1 rfl <| sE ?_;clear H a;intro a H
  have S1 := (S.sel [1] rfl rfl)
  refine list_call H rfl rfl Try.func81 rfl rfl (cir_CF1 hz sw SA sc ws QA qc OA oc ha cl op n y b2 _ _ S1.startR ((hsw.nowR S1)) (hws.nowR S1) (fun k hk => (hof k hk).nowR S1) V hy hyn hc1 ih) ?_;clear H a
  rintro _ _ a ⟨rfl, S2⟩ H
  replace S := (S.sel [1, 0] rfl rfl).callR (M := [_]) S2; clear S1 S2
  refine ls 1 H <| sr 1 rfl <| sE ?_;clear H a;intro a H
  refine k8 _ _ ?_;clear k8 K8
  refine wp_ret ?_
  refine ret1 (fn := Try.f72) rfl H rfl ?_
  refine ⟨congrArg Value.bool ?_, (S.sel [] rfl rfl)⟩
  rw [wireB, if_neg hc1, if_pos hc2]
 skip
 refine wp_skip ?_
 refine k3 _ _ ?_
 replace H := H.keep [2, 5] rfl
 refine seq_list fun K9 k9 => ?_
 refine ls 3 H <| sf fo_125_1 rfl <| sl S 0 one_25 rfl rfl rfl <| sr 1 rfl <| sE ?_;clear H a;intro a H
 have S1 := (S.sel [1] rfl rfl)
 refine list_call H rfl rfl Try.func81 rfl rfl (cir_CF2 hz sw SA sc ws QA qc OA oc ha cl op n y b2 _ _ S1.startR ((hsw.nowR S1)) (hws.nowR S1) (fun k hk => (hof k hk).nowR S1) V hy hyn hc1 ih) ?_;clear H a
 rintro _ _ a ⟨rfl, S2⟩ H
 replace S := (S.sel [1, 0] rfl rfl).callR (M := [_]) S2; clear S1 S2
 refine ls 2 H <| sr 2 rfl <| sE ?_;clear H a;intro a H
 refine k9 _ _ ?_;clear k9 K9
 refine wp_ret ?_
 refine ret1 (fn := Try.f72) rfl H rfl ?_
 refine ⟨congrArg Value.bool ?_, (S.sel [] rfl rfl)⟩
 rw [wireB, if_neg hc1, if_neg hc2]

theorem cir_wire (hz : Int) (sw : List Int) (SA : Option Addr) (sc : Nat) (ws : List Wr) (QA : Option Addr) (qc : Nat) (OA : Nat → Option Addr) (oc : Nat → Nat) (ha cl op : Int) (V : CirV hz sw ws) (hha : 0 ≤ ha ∧ ha ≤ 4095) (hcl : 0 ≤ cl ∧ cl ≤ 4095) (hop : 0 ≤ op ∧ op ≤ 4095) : ∀ n : Nat, ∀ (x : Int) (w : World), 0 ≤ x ∧ x < ws.length → ws.length - x.toNat ≤ n → InS w noF 1 SA sw.length (icl sw) → InS w noF 2 QA ws.length (wrcell ws OA oc) → (∀ k, k < ws.length → InS w noF 1 (OA k) (ws.getD k Wr.zero).of.length (icl (ws.getD k Wr.zero).of)) → Calls Try.prog 72 [.agg [.int .i64 hz, .slice SA sw.length sc, .slice QA ws.length qc, .int .i64 ha, .int .i64 cl, .int .i64 op].toArray, .int .i64 x].toArray w (Ret fun u w' => u = .bool (wireB sw ws ha cl op n x.toNat) ∧ St w noF [] w') := by
  intro n
  induction n with
  | zero => intro x w hx hxn; omega
  | succ n ih => intro x w hx hxn h1 h2 h3; exact cir_wire_step hz sw SA sc ws QA qc OA oc ha cl op n x w h1 h2 h3 V hha hcl hop hx hxn ih


end Go.Proofs.Ytdepakimbagonaa
