/- ChE. Printed by gen.py. -/
import Derived.Test.YtdepakimbagonaaChD
import Derived.Test.YtdepakimbagonaaF1
namespace Go.Proofs.Ytdepakimbagonaa
open Go.RowKit
set_option linter.unusedVariables false
set_option linter.unusedSimpArgs false
set_option maxRecDepth 100000
set_option maxHeartbeats 4000000


theorem checkE_ok {c : Chain} {l : List Gauge} (h : checkE c l = 0) : chainOk c = true ∧ l.length ≤ 40 ∧ l.all (gaugeOk c.links) = true := by
  unfold checkE at h
  split at h
  · split at h
    · split at h
      · exact ⟨by assumption, by assumption, by assumption⟩
      · cases h
    · cases h
  · cases h
/-- The web of all gauges, or the error. -/
def wholeO (c : Chain) (l : List Gauge) (asked : Bool) : Except Int IM :=
  if checkE c l ≠ 0 then .error (checkE c l) else if asked then (match weaveW c l yes with | some M => .ok M | none => .error 3) else .error 1
theorem wholeO_ok {c : Chain} {l : List Gauge} {asked : Bool} {M : IM} (h : wholeO c l asked = .ok M) : checkE c l = 0 ∧ asked = true ∧ weaveW c l yes = some M := by
  unfold wholeO at h
  split at h
  · cases h
  · split at h
    · split at h
      · cases h; exact ⟨by omega, by assumption, by assumption⟩
      · cases h
    · cases h
theorem wholeO_err {c : Chain} {l : List Gauge} {asked : Bool} {e : Int} (h : wholeO c l asked = .error e) : e ≠ 0 := by
  unfold wholeO at h
  split at h
  · cases h; assumption
  · split at h
    · split at h
      · cases h
      · cases h; omega
    · cases h; omega
def Whole (w : World) (n : Nat) (o : Except Int IM) (v : Value) (w' : World) : Prop := match o with
  | .ok M => ∃ W rb rc, v = .tuple #[.slice W n n, .int .i64 0] ∧ St w noF [ownM 25 1 W n n (fun i _ => rowv rb rc n i), rowsM 3 n n rb rc (M)] w'
  | .error e => v = .tuple #[.slice none 0 0, .int .i64 e] ∧ St w noF [] w'
def isRunB (c : Chain) (a b : Int) : Bool := decide (0 ≤ a) && decide (a ≤ b) && decide (b ≤ c.links)
theorem chain_weaveI (links pitch limit : Int) (l : List Gauge) (A : Option Addr) (cp : Nat) (p : Nat → Bool) (f : Nat) (fn : Func) (caps : List Value) (w : World) (hk : checkE (⟨links, pitch, limit⟩ : Chain) l = 0) (hl : InS w noF 4 A l.length (gcell l)) (hf : Try.prog.funcs[f]? = some fn) (hfb : fn.body.isNone = false) (hfn : (fn.name == "runtime.NumGoroutine") = false) (hcall : ∀ (k : Nat) (w' : World), k < l.length → Keeps w w' noF → Calls Try.prog f (.int .i64 (k : Int) :: caps).toArray w' (Ret fun v w'' => v = .bool (p k) ∧ w'' = w')) :
    Calls Try.prog 53 [.agg [.int .i64 links, .int .i64 pitch, .int .i64 limit].toArray, .slice A l.length cp, .func (.func f) [].toArray caps.toArray].toArray w (Ret (Woven w ((⟨links, pitch, limit⟩ : Chain).n) (weaveW (⟨links, pitch, limit⟩ : Chain) l p))) := by
  obtain ⟨h1, h2, h3⟩ := checkE_ok hk
  have h4 : 0 ≤ links := by unfold chainOk at h1; simp only [decide_eq_true_eq] at h1; omega
  obtain ⟨m, rfl⟩ := Int.eq_ofNat_of_zero_le h4
  exact chain_weave m pitch limit l A cp p f fn caps w h1 h2 h3 hl hf hfb hfn hcall
theorem woven_some {w : World} {n : Nat} {o : Option IM} {M : IM} (h : o = some M) {v : Value} {w' : World} (hw : Woven w n o v w') : ∃ W rb rc, v = .tuple #[.slice W n n, .bool true] ∧ St w noF [ownM 25 1 W n n (fun i _ => rowv rb rc n i), rowsM 3 n n rb rc (M)] w' := by subst h; exact hw
theorem woven_none {w : World} {n : Nat} {o : Option IM} (h : o = none) {v : Value} {w' : World} (hw : Woven w n o v w') : v = .tuple #[.slice none 0 0, .bool false] ∧ St w noF [] w' := by subst h; exact hw
theorem whole_ok {w : World} {n : Nat} {o : Except Int IM} {M : IM} (h : o = .ok M) {v : Value} {w' : World} (hw : Whole w n o v w') : ∃ W rb rc, v = .tuple #[.slice W n n, .int .i64 0] ∧ St w noF [ownM 25 1 W n n (fun i _ => rowv rb rc n i), rowsM 3 n n rb rc (M)] w' := by subst h; exact hw
theorem whole_err {w : World} {n : Nat} {o : Except Int IM} {e : Int} (h : o = .error e) {v : Value} {w' : World} (hw : Whole w n o v w') : v = .tuple #[.slice none 0 0, .int .i64 e] ∧ St w noF [] w' := by subst h; exact hw
theorem ret_imp {P : Program} {f : Nat} {vs : Array Value} {w : World} {R R' : Value → World → Prop} (h : Calls P f vs w (Ret R)) (k : ∀ v w', R v w' → R' v w') : Calls P f vs w (Ret R') := Calls.mono h fun e w' he => by
  cases e with
  | returned v => exact k v w' he
  | _ => exact he
theorem weave_good {c : Chain} {l : List Gauge} {p : Nat → Bool} {M : IM} (hk : checkE c l = 0) (h : weaveW c l p = some M) : Good c.n M := by
  obtain ⟨h1, h2, h3⟩ := checkE_ok hk
  have h4 := h1
  unfold chainOk at h4
  simp only [decide_eq_true_eq] at h4
  have hn : c.n ≤ 25 := by unfold Chain.n; omega
  exact gto_good (linksTo_ok h1 hn c.links.toNat (by unfold Chain.n; omega)).1 h3 l.length M (Nat.le_refl _) h
theorem wholeO_good {c : Chain} {l : List Gauge} {asked : Bool} {M : IM} (h : wholeO c l asked = .ok M) : Good c.n M ∧ chainOk c = true := by
  obtain ⟨h1, _, h3⟩ := wholeO_ok h
  exact ⟨weave_good h1 h3, (checkE_ok h1).1⟩


theorem whole_1 (k : Int) (w : World) :
    Calls Try.prog 54 [.int .i64 k].toArray w (Ret (fun v w' => v = .bool true ∧ w' = w)) := by
 refine enter Try.func54 rfl Try.ntmps54 rfl (fun a H => ?_)
 have S := St.start w
 refine sS H fun K1 k1=>sr 1 rfl <| sE ?_;clear H a;intro a H
 refine k1 _ ?_;clear k1 K1
 refine sS H fun K2 k2=>sr 1 rfl <| sE ?_;clear H a;intro a H
 refine k2 _ ?_;clear k2 K2
 refine wp_ret ?_
 refine ret1 (fn := Try.f54) rfl H rfl ?_
 exact ⟨rfl, rfl⟩

theorem chain_isRun (links pitch limit a b : Int) (w : World) :
    Calls Try.prog 34 [.agg [.int .i64 links, .int .i64 pitch, .int .i64 limit].toArray, .int .i64 a, .int .i64 b].toArray w (Ret (fun v w' => v = .bool (isRunB (⟨links, pitch, limit⟩ : Chain) a b) ∧ St w noF [] w')) := by
 refine enter Try.func34 rfl Try.ntmps34 rfl (fun a H => ?_)
 have S := St.start w
 refine seq_list fun K1 k1 => ?_
 refine list_box H rfl S rfl rfl ?_;clear H a S;intro b3 _ a hb3 hbw3 S H
 refine ls 1 H <| sr 1 rfl <| sE ?_;clear H a;intro a H
 refine k1 _ _ ?_;clear k1 K1
 replace H := H.keep [1, 2, 3] rfl
 refine sS H fun K2 k2=>sr 3 rfl <| sg 3 2 9 12 true rfl rfl (fun hg3 => sy hg3 <| sr 1 rfl <| sy hg3 <| sr 1 rfl <| sy hg3 <| sr 1 rfl <| sz 3 rfl rfl rfl) <| sa rfl rfl rfl <| sr 1 rfl <| sg 4 7 14 18 true rfl rfl (fun hg8 => sy hg8 <| sr 1 rfl <| sy hg8 <| sf fo_23_0 rfl <| sy hg8 <| sl S 0 one_3 rfl rfl rfl <| sy hg8 <| sr 1 rfl <| sz 4 rfl rfl rfl) <| sa rfl rfl rfl <| sr 1 rfl <| sE ?_;clear H a;intro a H
 refine k2 _ ?_;clear k2 K2
 refine wp_ret ?_
 refine ret1 (fn := Try.f34) rfl H rfl ?_
 exact ⟨rfl, (S.sel [] rfl rfl)⟩

theorem chain_whole (links pitch limit : Int) (l : List Gauge) (A : Option Addr) (cp : Nat) (asked : Bool) (w : World) (hl : InS w noF 4 A l.length (gcell l)) (hn : l.length ≤ 9223372036854775807) :
    Calls Try.prog 32 [.agg [.int .i64 links, .int .i64 pitch, .int .i64 limit].toArray, .slice A l.length cp, .bool asked].toArray w (Ret (Whole w ((⟨links, pitch, limit⟩ : Chain).n) (wholeO (⟨links, pitch, limit⟩ : Chain) l asked))) := by
 refine enter Try.func32 rfl Try.ntmps32 rfl (fun a H => ?_)
 have S := St.start w
 refine seq_list fun K1 k1 => ?_
 refine list_box H rfl S rfl rfl ?_;clear H a S;intro b3 _ a hb3 hbw3 S H
 refine ls 2 H <| sr 2 rfl <| sE ?_;clear H a;intro a H
 refine k1 _ _ ?_;clear k1 K1
 refine wp_seq_k fun K2 k2 => ?_
 refine seq_list fun K3 k3 => ?_
 refine ls 2 H <| sd ((does_loadBox agg_23 sz_23 rfl S (i := 0) rfl rfl)) <| sr 1 rfl <| sE ?_;clear H a;intro a H
 refine list_call H rfl rfl Try.func52 rfl rfl (chain_Check (⟨links, pitch, limit⟩ : Chain) l A cp _ (hl.now S) hn) ?_;clear H a
 rintro _ _ a ⟨rfl, S2⟩ H
 replace S := S.call S2;clear S2
 refine ls 1 H <| sr 1 rfl <| sE ?_;clear H a;intro a H
 refine k3 _ _ ?_;clear k3 K3
 refine sS H fun K4 k4=>sr 2 rfl <| sE ?_;clear H a;intro a H
 refine k4 _ ?_;clear k4 K4
 refine condN H rfl (fun hc1 => ?_) (fun hc1 => ?_)
 ·skip
  replace H := H.keep [8] rfl
  refine sS H fun K5 k5=>sr 3 rfl <| sE ?_;clear H a;intro a H
  refine k5 _ ?_;clear k5 K5
  refine wp_ret ?_
  refine ret2 (fn := Try.f32) rfl H rfl rfl ?_
  show Whole _ _ _ _ _; unfold wholeO; rw [if_pos (by omega)]; exact ⟨rfl, (S.sel [] rfl rfl)⟩
 refine wp_skip ?_
 refine k2 _ _ ?_
 refine wp_seq_k fun K6 k6 => ?_
 refine sS H fun K7 k7=>sr 2 rfl <| sE ?_;clear H a;intro a H
 refine k7 _ ?_;clear k7 K7
 refine cond_ H rfl (fun hc2 => ?_) (fun hc2 => ?_)
 ·skip
  simp only [Bool.not_eq_true', Bool.not_eq_false'] at hc2
  refine sS H fun K8 k8=>sr 2 rfl <| sE ?_;clear H a;intro a H
  refine k8 _ ?_;clear k8 K8
  refine wp_ret ?_
  refine ret2 (fn := Try.f32) rfl H rfl rfl ?_
  show Whole _ _ _ _ _; unfold wholeO; rw [if_neg (by omega), hc2]; exact ⟨rfl, (S.sel [] rfl rfl)⟩
 simp only [Bool.not_eq_true', Bool.not_eq_false'] at hc2
 refine wp_skip ?_
 refine k6 _ _ ?_
 have hk : checkE (⟨links, pitch, limit⟩ : Chain) l = 0 := by omega
 rcases hW : weaveW (⟨links, pitch, limit⟩ : Chain) l yes with _ | M
 ·skip
  replace H := H.keep [1, 3] rfl
  refine seq_list fun K9 k9 => ?_
  refine ls 2 H <| sd ((does_loadBox agg_23 sz_23 rfl S (i := 0) rfl rfl)) <| sr 1 rfl <| sE ?_;clear H a;intro a H
  refine list_call H rfl rfl Try.func53 rfl rfl (ret_imp (chain_weaveI links pitch limit l A cp yes 54 _ [] _ hk (hl.now S) Try.func54 rfl rfl (fun k w' _ _ => whole_1 k w')) (fun _ _ => woven_none hW)) ?_;clear H a
  rintro _ _ a ⟨rfl, S2⟩ H
  replace S := S.call S2;clear S2
  refine ls 5 H <| sr 5 rfl <| sE ?_;clear H a;intro a H
  refine k9 _ _ ?_;clear k9 K9
  refine wp_seq_k fun K10 k10 => ?_
  replace H := H.keep [9, 10] rfl
  refine sS H fun K11 k11=>sr 2 rfl <| sE ?_;clear H a;intro a H
  refine k11 _ ?_;clear k11 K11
  refine cond_ H rfl (fun hc3 => ?_) (fun hc3 => ?_)
  ·skip
   skip
   refine sS H fun K12 k12=>sr 2 rfl <| sE ?_;clear H a;intro a H
   refine k12 _ ?_;clear k12 K12
   refine wp_ret ?_
   refine ret2 (fn := Try.f32) rfl H rfl rfl ?_
   show Whole _ _ _ _ _; unfold wholeO; rw [if_neg (by omega), hc2, hW]; exact ⟨rfl, (S.sel [] rfl rfl)⟩
  skip
  cases hc3
 replace H := H.keep [1, 3] rfl
 refine seq_list fun K13 k13 => ?_
 refine ls 2 H <| sd ((does_loadBox agg_23 sz_23 rfl S (i := 0) rfl rfl)) <| sr 1 rfl <| sE ?_;clear H a;intro a H
 refine list_call H rfl rfl Try.func53 rfl rfl (ret_imp (chain_weaveI links pitch limit l A cp yes 54 _ [] _ hk (hl.now S) Try.func54 rfl rfl (fun k w' _ _ => whole_1 k w')) (fun _ _ => woven_some hW)) ?_;clear H a
 rintro _ _ a ⟨W, rb, rc, rfl, S2⟩ H
 replace S := S.call S2;clear S2
 refine ls 5 H <| sr 5 rfl <| sE ?_;clear H a;intro a H
 refine k13 _ _ ?_;clear k13 K13
 refine wp_seq_k fun K14 k14 => ?_
 replace H := H.keep [9, 10] rfl
 refine sS H fun K15 k15=>sr 2 rfl <| sE ?_;clear H a;intro a H
 refine k15 _ ?_;clear k15 K15
 refine cond_ H rfl (fun hc4 => ?_) (fun hc4 => ?_)
 ·skip
  skip
  cases hc4
 skip
 refine wp_skip ?_
 refine k14 _ _ ?_
 refine sS H fun K16 k16=>sr 3 rfl <| sE ?_;clear H a;intro a H
 refine k16 _ ?_;clear k16 K16
 refine wp_ret ?_
 refine ret2 (fn := Try.f32) rfl H rfl rfl ?_
 show Whole _ _ _ _ _; unfold wholeO; rw [if_neg (by omega), hc2, hW]; exact ⟨W, rb, rc, rfl, (S.sel [0, 1] rfl rfl)⟩

end Go.Proofs.Ytdepakimbagonaa
