/- ChE. Printed by gen.py. -/
import Derived.Test.YtlejjfhgfajoiaaChD
import Derived.Test.YtlejjfhgfajoiaaRef
namespace Go.Proofs.Ytlejjfhgfajoiaa
open Go.RowKit
set_option linter.unusedVariables false
set_option linter.unusedSimpArgs false


theorem checkE_ok {c : Chain} {l : List Gauge} (h : checkE c l = 0) : chainOk c = true ∧ l.length ≤ 40 ∧ l.all (gaugeOk c.links) = true := by
  unfold checkE at h
  split at h
  · split at h
    · split at h
      · exact ⟨by assumption, by assumption, by assumption⟩
      · cases h
    · cases h
  · cases h
/-- The web of all gauges, or the error. -/
def wholeO (c : Chain) (l : List Gauge) (asked : Bool) : Except Int IM :=
  if checkE c l ≠ 0 then .error (checkE c l) else if asked then (match weaveW c l yes with | some M => .ok M | none => .error 3) else .error 1
theorem wholeO_ok {c : Chain} {l : List Gauge} {asked : Bool} {M : IM} (h : wholeO c l asked = .ok M) : checkE c l = 0 ∧ asked = true ∧ weaveW c l yes = some M := by
  unfold wholeO at h
  split at h
  · cases h
  · split at h
    · split at h
      · cases h; exact ⟨by omega, by assumption, by assumption⟩
      · cases h
    · cases h
theorem wholeO_err {c : Chain} {l : List Gauge} {asked : Bool} {e : Int} (h : wholeO c l asked = .error e) : e ≠ 0 := by
  unfold wholeO at h
  split at h
  · cases h; assumption
  · split at h
    · split at h
      · cases h
      · cases h; omega
    · cases h; omega
def Whole (w : World) (n : Nat) (o : Except Int IM) (v : Value) (w' : World) : Prop := match o with
  | .ok M => ∃ W rb rc, v = .tuple #[.slice W n n, .int .i64 0] ∧ St w noF [ownM 29 1 W n n (fun i _ => rowv rb rc n i), rowsM 3 n n rb rc (M)] w'
  | .error e => v = .tuple #[.slice none 0 0, .int .i64 e] ∧ St w noF [] w'
def isRunB (c : Chain) (a b : Int) : Bool := decide (0 ≤ a) && decide (a ≤ b) && decide (b ≤ c.links)
theorem chain_weaveI (links pitch limit : Int) (l : List Gauge) (A : Option Addr) (cp : Nat) (p : Nat → Bool) (f : Nat) (fn : Func) (caps : List Value) (w : World) (hk : checkE (⟨links, pitch, limit⟩ : Chain) l = 0) (hl : InS w noF 4 A l.length (gcell l)) (hf : Try.prog.funcs[f]? = some fn) (hfb : fn.body.isNone = false) (hfn : (fn.name == "runtime.NumGoroutine") = false) (hcall : ∀ (k : Nat) (w' : World), k < l.length → Keeps w w' noF → Calls Try.prog f (.int .i64 (k : Int) :: caps).toArray w' (Ret fun v w'' => v = .bool (p k) ∧ w'' = w')) :
    Calls Try.prog 80 [.agg [.int .i64 links, .int .i64 pitch, .int .i64 limit].toArray, .slice A l.length cp, .func (.func f) [].toArray caps.toArray].toArray w (Ret (Woven w ((⟨links, pitch, limit⟩ : Chain).n) (weaveW (⟨links, pitch, limit⟩ : Chain) l p))) := by
  obtain ⟨h1, h2, h3⟩ := checkE_ok hk
  have h4 : 0 ≤ links := by unfold chainOk at h1; simp only [decide_eq_true_eq] at h1; omega
  obtain ⟨m, rfl⟩ := Int.eq_ofNat_of_zero_le h4
  exact chain_weave m pitch limit l A cp p f fn caps w h1 h2 h3 hl hf hfb hfn hcall
theorem woven_some {w : World} {n : Nat} {o : Option IM} {M : IM} (h : o = some M) {v : Value} {w' : World} (hw : Woven w n o v w') : ∃ W rb rc, v = .tuple #[.slice W n n, .bool true] ∧ St w noF [ownM 29 1 W n n (fun i _ => rowv rb rc n i), rowsM 3 n n rb rc (M)] w' := by subst h; exact hw
theorem woven_none {w : World} {n : Nat} {o : Option IM} (h : o = none) {v : Value} {w' : World} (hw : Woven w n o v w') : v = .tuple #[.slice none 0 0, .bool false] ∧ St w noF [] w' := by subst h; exact hw
theorem whole_ok {w : World} {n : Nat} {o : Except Int IM} {M : IM} (h : o = .ok M) {v : Value} {w' : World} (hw : Whole w n o v w') : ∃ W rb rc, v = .tuple #[.slice W n n, .int .i64 0] ∧ St w noF [ownM 29 1 W n n (fun i _ => rowv rb rc n i), rowsM 3 n n rb rc (M)] w' := by subst h; exact hw
theorem whole_err {w : World} {n : Nat} {o : Except Int IM} {e : Int} (h : o = .error e) {v : Value} {w' : World} (hw : Whole w n o v w') : v = .tuple #[.slice none 0 0, .int .i64 e] ∧ St w noF [] w' := by subst h; exact hw
theorem ret_imp {P : Program} {f : Nat} {vs : Array Value} {w : World} {R R' : Value → World → Prop} (h : Calls P f vs w (Ret R)) (k : ∀ v w', R v w' → R' v w') : Calls P f vs w (Ret R') := Calls.mono h fun e w' he => by
  cases e with
  | returned v => exact k v w' he
  | _ => exact he
theorem weave_good {c : Chain} {l : List Gauge} {p : Nat → Bool} {M : IM} (hk : checkE c l = 0) (h : weaveW c l p = some M) : Good c.n M := by
  obtain ⟨h1, h2, h3⟩ := checkE_ok hk
  have h4 := h1
  unfold chainOk at h4
  simp only [decide_eq_true_eq] at h4
  have hn : c.n ≤ 25 := by unfold Chain.n; omega
  exact gto_good (linksTo_ok h1 hn c.links.toNat (by unfold Chain.n; omega)).1 h3 l.length M (Nat.le_refl _) h
theorem wholeO_good {c : Chain} {l : List Gauge} {asked : Bool} {M : IM} (h : wholeO c l asked = .ok M) : Good c.n M ∧ chainOk c = true := by
  obtain ⟨h1, _, h3⟩ := wholeO_ok h
  exact ⟨weave_good h1 h3, (checkE_ok h1).1⟩


set_option maxRecDepth 100000 in
set_option maxHeartbeats 1000000 in
theorem whole_1 (k : Int) (w : World) :
    Calls Try.prog 85 [.int .i64 k].toArray w (Ret (fun v w' => v = .bool true ∧ w' = w)) := by
  refine enter Try.func85 rfl Try.ntmps85 rfl (fun a H => ?_)
  have S := St.start w
  refine seq_still (fun K1 hK1 => ?_)
  refine still_does H rfl (does_assign rfl) ?_; clear H a; intro a H
  refine wpStill_nil (hK1 _ ?_)
  clear hK1 K1
  replace H := H.keep [] rfl
  refine seq_still (fun K2 hK2 => ?_)
  refine still_does H rfl (does_assign rfl) ?_; clear H a; intro a H
  refine wpStill_nil (hK2 _ ?_)
  clear hK2 K2
  refine wp_ret ?_
  refine ret1 (fn := Try.f85) rfl H rfl ?_
  exact ⟨rfl, rfl⟩

set_option maxRecDepth 100000 in
set_option maxHeartbeats 1000000 in
theorem chain_isRun (links pitch limit a b : Int) (w : World) :
    Calls Try.prog 61 [.agg [.int .i64 links, .int .i64 pitch, .int .i64 limit].toArray, .int .i64 a, .int .i64 b].toArray w (Ret (fun v w' => v = .bool (isRunB (⟨links, pitch, limit⟩ : Chain) a b) ∧ St w noF [] w')) := by
  refine enter Try.func61 rfl Try.ntmps61 rfl (fun a H => ?_)
  have S := St.start w
  refine seq_list (fun K1 hK1 => ?_)
  refine list_box H rfl S rfl rfl ?_; clear H a S; intro b3 _ a hb3 hbw3 S H
  refine list_does H rfl (does_assign rfl) ?_; clear H a; intro a H
  refine hK1 _ _ ?_
  clear hK1 K1
  replace H := H.keep [1, 2, 3] rfl
  refine seq_still (fun K2 hK2 => ?_)
  refine still_does H rfl (does_move rfl) ?_; clear H a; intro a H
  refine still_does H rfl (does_leq rfl rfl) ?_; clear H a; intro a H
  refine still_does H rfl (does_move rfl) ?_; clear H a; intro a H
  apply still_guard (i := 2) (g := 9) (t := 12) (b := true) 3 H rfl rfl (by kernel_rfl) (by kernel_rfl) rfl rfl
  case h1 =>
    intro hg3
    refine still_yes' H rfl rfl (by assumption) ?_
    refine still_does H rfl (does_move rfl) ?_; intro a H
    refine still_yes' H rfl rfl (by assumption) ?_
    refine still_does H rfl (does_move rfl) ?_; intro a H
    refine still_yes' H rfl rfl (by assumption) ?_
    refine still_does H rfl (does_leq rfl rfl) ?_; intro a H
    exact wpStill_nil (H.strip 3 rfl rfl)
  case k =>
    clear H a; intro a H
    refine still_does H rfl (by first | exact does_and rfl rfl rfl | exact does_pick rfl rfl rfl) ?_; clear H a; intro a H
    refine still_does H rfl (does_move rfl) ?_; clear H a; intro a H
    apply still_guard (i := 7) (g := 14) (t := 18) (b := true) 4 H rfl rfl (by kernel_rfl) (by kernel_rfl) rfl rfl
    case h1 =>
      intro hg8
      refine still_yes' H rfl rfl (by assumption) ?_
      refine still_does H rfl (does_move rfl) ?_; intro a H
      refine still_yes' H rfl rfl (by assumption) ?_
      refine still_does H rfl (by first | exact does_field_pt fo_23_0 rfl | exact does_field fo_23_0 rfl) ?_; intro a H
      refine still_yes' H rfl rfl (by assumption) ?_
      refine still_does H rfl (does_load one_3 rfl (by first | exact boxM.rd S (i := 0) rfl rfl)) ?_; intro a H
      refine still_yes' H rfl rfl (by assumption) ?_
      refine still_does H rfl (does_leq rfl rfl) ?_; intro a H
      exact wpStill_nil (H.strip 4 rfl rfl)
    case k =>
      clear H a; intro a H
      refine still_does H rfl (by first | exact does_and rfl rfl rfl | exact does_pick rfl rfl rfl) ?_; clear H a; intro a H
      refine still_does H rfl (does_assign rfl) ?_; clear H a; intro a H
      refine wpStill_nil (hK2 _ ?_)
      clear hK2 K2
      refine wp_ret ?_
      refine ret1 (fn := Try.f61) rfl H rfl ?_
      exact ⟨rfl, (S.sel [] rfl rfl)⟩

set_option maxRecDepth 100000 in
set_option maxHeartbeats 1000000 in
theorem chain_whole (links pitch limit : Int) (l : List Gauge) (A : Option Addr) (cp : Nat) (asked : Bool) (w : World) (hl : InS w noF 4 A l.length (gcell l)) (hn : l.length ≤ 9223372036854775807) :
    Calls Try.prog 60 [.agg [.int .i64 links, .int .i64 pitch, .int .i64 limit].toArray, .slice A l.length cp, .bool asked].toArray w (Ret (Whole w ((⟨links, pitch, limit⟩ : Chain).n) (wholeO (⟨links, pitch, limit⟩ : Chain) l asked))) := by
  refine enter Try.func60 rfl Try.ntmps60 rfl (fun a H => ?_)
  have S := St.start w
  refine seq_list (fun K1 hK1 => ?_)
  refine list_box H rfl S rfl rfl ?_; clear H a S; intro b3 _ a hb3 hbw3 S H
  refine list_does H rfl (does_assign rfl) ?_; clear H a; intro a H
  refine list_does H rfl (does_assign rfl) ?_; clear H a; intro a H
  refine hK1 _ _ ?_
  clear hK1 K1
  refine wp_seq_k (fun K2 hK2 => ?_)
  replace H := H.keep [1, 2, 3] rfl
  refine seq_list (fun K3 hK3 => ?_)
  refine list_does H rfl (by first | exact does_loadBox agg_23 sz_23 rfl S (i := 0) rfl rfl) ?_; clear H a; intro a H
  refine list_does H rfl (does_move rfl) ?_; clear H a; intro a H
  refine list_call H rfl rfl Try.func23 rfl rfl (chain_Check (⟨links, pitch, limit⟩ : Chain) l A cp _ (hl.now S) hn) ?_; clear H a
  rintro _ _ a ⟨rfl, S2⟩ H
  replace S := S.call S2; clear S2
  refine list_does H rfl (does_assign rfl) ?_; clear H a; intro a H
  refine hK3 _ _ ?_
  clear hK3 K3
  replace H := H.keep [1, 2, 3, 8] rfl
  refine seq_still (fun K4 hK4 => ?_)
  refine still_does H rfl (does_move rfl) ?_; clear H a; intro a H
  refine still_does H rfl (does_neq rfl rfl) ?_; clear H a; intro a H
  refine wpStill_nil (hK4 _ ?_)
  clear hK4 K4
  refine cond_ H rfl (fun hc1 => ?_) (fun hc1 => ?_)
  · try simp only [Bool.or_eq_true, Bool.and_eq_true, Bool.not_eq_true', Bool.or_eq_false_iff, Bool.and_eq_false_iff, Bool.not_eq_false', decide_eq_true_eq, decide_eq_false_iff_not, Int.not_lt, Int.not_le] at hc1
    replace H := H.keep [8] rfl
    refine seq_still (fun K5 hK5 => ?_)
    refine still_does H rfl (does_move rfl) ?_; clear H a; intro a H
    refine still_does H rfl (does_assign rfl) ?_; clear H a; intro a H
    refine still_does H rfl (does_assign rfl) ?_; clear H a; intro a H
    refine wpStill_nil (hK5 _ ?_)
    clear hK5 K5
    refine wp_ret ?_
    refine ret2 (fn := Try.f60) rfl H rfl rfl ?_
    show Whole _ _ _ _ _; unfold wholeO; rw [if_pos (by omega)]; exact ⟨rfl, (S.sel [] rfl rfl)⟩
  · try simp only [Bool.or_eq_true, Bool.and_eq_true, Bool.not_eq_true', Bool.or_eq_false_iff, Bool.and_eq_false_iff, Bool.not_eq_false', decide_eq_true_eq, decide_eq_false_iff_not, Int.not_lt, Int.not_le] at hc1
    refine wp_skip ?_
    refine hK2 _ _ ?_
    refine wp_seq_k (fun K6 hK6 => ?_)
    replace H := H.keep [1, 2, 3] rfl
    refine seq_still (fun K7 hK7 => ?_)
    refine still_does H rfl (does_move rfl) ?_; clear H a; intro a H
    refine still_does H rfl (does_not rfl) ?_; clear H a; intro a H
    refine wpStill_nil (hK7 _ ?_)
    clear hK7 K7
    refine cond_ H rfl (fun hc2 => ?_) (fun hc2 => ?_)
    · simp only [Bool.not_eq_true', Bool.not_eq_false'] at hc2
      replace H := H.keep [] rfl
      refine seq_still (fun K8 hK8 => ?_)
      refine still_does H rfl (does_assign rfl) ?_; clear H a; intro a H
      refine still_does H rfl (does_assign rfl) ?_; clear H a; intro a H
      refine wpStill_nil (hK8 _ ?_)
      clear hK8 K8
      refine wp_ret ?_
      refine ret2 (fn := Try.f60) rfl H rfl rfl ?_
      show Whole _ _ _ _ _; unfold wholeO; rw [if_neg (by omega), hc2]; exact ⟨rfl, (S.sel [] rfl rfl)⟩
    · simp only [Bool.not_eq_true', Bool.not_eq_false'] at hc2
      refine wp_skip ?_
      refine hK6 _ _ ?_
      have hk : checkE (⟨links, pitch, limit⟩ : Chain) l = 0 := by omega
      rcases hW : weaveW (⟨links, pitch, limit⟩ : Chain) l yes with _ | M
      · skip
        replace H := H.keep [1, 3] rfl
        refine seq_list (fun K9 hK9 => ?_)
        refine list_does H rfl (by first | exact does_loadBox agg_23 sz_23 rfl S (i := 0) rfl rfl) ?_; clear H a; intro a H
        refine list_does H rfl (does_move rfl) ?_; clear H a; intro a H
        refine list_call H rfl rfl Try.func80 rfl rfl (ret_imp (chain_weaveI links pitch limit l A cp yes 85 _ [] _ hk (hl.now S) Try.func85 rfl rfl (fun k w' _ _ => whole_1 k w')) (fun _ _ => woven_none hW)) ?_; clear H a
        rintro _ _ a ⟨rfl, S2⟩ H
        replace S := S.call S2; clear S2
        refine list_does H rfl (does_move rfl) ?_; clear H a; intro a H
        refine list_does H rfl (does_extract rfl rfl) ?_; clear H a; intro a H
        refine list_does H rfl (does_extract rfl rfl) ?_; clear H a; intro a H
        refine list_does H rfl (does_assign rfl) ?_; clear H a; intro a H
        refine list_does H rfl (does_assign rfl) ?_; clear H a; intro a H
        refine hK9 _ _ ?_
        clear hK9 K9
        refine wp_seq_k (fun K10 hK10 => ?_)
        replace H := H.keep [9, 10] rfl
        refine seq_still (fun K11 hK11 => ?_)
        refine still_does H rfl (does_move rfl) ?_; clear H a; intro a H
        refine still_does H rfl (does_not rfl) ?_; clear H a; intro a H
        refine wpStill_nil (hK11 _ ?_)
        clear hK11 K11
        refine cond_ H rfl (fun hc3 => ?_) (fun hc3 => ?_)
        · skip
          replace H := H.keep [] rfl
          refine seq_still (fun K12 hK12 => ?_)
          refine still_does H rfl (does_assign rfl) ?_; clear H a; intro a H
          refine still_does H rfl (does_assign rfl) ?_; clear H a; intro a H
          refine wpStill_nil (hK12 _ ?_)
          clear hK12 K12
          refine wp_ret ?_
          refine ret2 (fn := Try.f60) rfl H rfl rfl ?_
          show Whole _ _ _ _ _; unfold wholeO; rw [if_neg (by omega), hc2, hW]; exact ⟨rfl, (S.sel [] rfl rfl)⟩
        · skip
          cases hc3
      · skip
        replace H := H.keep [1, 3] rfl
        refine seq_list (fun K13 hK13 => ?_)
        refine list_does H rfl (by first | exact does_loadBox agg_23 sz_23 rfl S (i := 0) rfl rfl) ?_; clear H a; intro a H
        refine list_does H rfl (does_move rfl) ?_; clear H a; intro a H
        refine list_call H rfl rfl Try.func80 rfl rfl (ret_imp (chain_weaveI links pitch limit l A cp yes 85 _ [] _ hk (hl.now S) Try.func85 rfl rfl (fun k w' _ _ => whole_1 k w')) (fun _ _ => woven_some hW)) ?_; clear H a
        rintro _ _ a ⟨W, rb, rc, rfl, S2⟩ H
        replace S := S.call S2; clear S2
        refine list_does H rfl (does_move rfl) ?_; clear H a; intro a H
        refine list_does H rfl (does_extract rfl rfl) ?_; clear H a; intro a H
        refine list_does H rfl (does_extract rfl rfl) ?_; clear H a; intro a H
        refine list_does H rfl (does_assign rfl) ?_; clear H a; intro a H
        refine list_does H rfl (does_assign rfl) ?_; clear H a; intro a H
        refine hK13 _ _ ?_
        clear hK13 K13
        refine wp_seq_k (fun K14 hK14 => ?_)
        replace H := H.keep [9, 10] rfl
        refine seq_still (fun K15 hK15 => ?_)
        refine still_does H rfl (does_move rfl) ?_; clear H a; intro a H
        refine still_does H rfl (does_not rfl) ?_; clear H a; intro a H
        refine wpStill_nil (hK15 _ ?_)
        clear hK15 K15
        refine cond_ H rfl (fun hc4 => ?_) (fun hc4 => ?_)
        · skip
          cases hc4
        · skip
          refine wp_skip ?_
          refine hK14 _ _ ?_
          replace H := H.keep [9] rfl
          refine seq_still (fun K16 hK16 => ?_)
          refine still_does H rfl (does_move rfl) ?_; clear H a; intro a H
          refine still_does H rfl (does_assign rfl) ?_; clear H a; intro a H
          refine still_does H rfl (does_assign rfl) ?_; clear H a; intro a H
          refine wpStill_nil (hK16 _ ?_)
          clear hK16 K16
          refine wp_ret ?_
          refine ret2 (fn := Try.f60) rfl H rfl rfl ?_
          show Whole _ _ _ _ _; unfold wholeO; rw [if_neg (by omega), hc2, hW]; exact ⟨W, rb, rc, rfl, (S.sel [0, 1] rfl rfl)⟩

end Go.Proofs.Ytlejjfhgfajoiaa
