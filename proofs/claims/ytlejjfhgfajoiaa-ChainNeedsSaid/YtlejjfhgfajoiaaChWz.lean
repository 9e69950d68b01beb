/- ChWz. Printed by gen.py. -/
import Derived.Test.YtlejjfhgfajoiaaChWy
namespace Go.Proofs.Ytlejjfhgfajoiaa
open Go.RowKit
set_option linter.unusedVariables false
set_option linter.unusedSimpArgs false


theorem whole_three {c : Chain} {l : List Gauge} {asked : Bool} (h : wholeO c l asked = .error 3) : checkE c l = 0 ∧ asked = true ∧ weaveW c l yes = none := by
  unfold wholeO at h
  split at h
  · rename_i h1
    exfalso
    have e : checkE c l = 3 := Except.error.inj h
    unfold checkE at e
    split at e
    · split at e
      · split at e
        · cases e
        · cases e
      · cases e
    · cases e
  · split at h
    · split at h
      · cases h
      · exact ⟨by omega, by assumption, by assumption⟩
    · cases h
theorem kr_err {c : Chain} {l : List Gauge} {asked : Bool} {e : Int} (h : wholeO c l asked = .error e) (he : e = 3) : checkE c l = 0 ∧ asked = true := by
  subst he
  exact ⟨(whole_three h).1, (whole_three h).2.1⟩
/-- What is left of the gauges, or the error. -/
def ListR (w : World) (o : Except Int (List Nat)) (v : Value) (w' : World) : Prop := match o with
  | .error e => v = .tuple #[.slice none 0 0, .int .i64 e] ∧ St w noF [] w'
  | .ok ks => ∃ A' c', v = .tuple #[.slice A' ks.length c', .int .i64 0] ∧ St w noF [ownM 3 1 A' ks.length c' (ncl ks)] w'
theorem list_err {o : Except Int (List Nat)} {e : Int} {w w' : World} {v : Value} (h : o = .error e) (hw : ListR w o v w') : v = .tuple #[.slice none 0 0, .int .i64 e] ∧ St w noF [] w' := by subst h; exact hw
theorem list_ok {o : Except Int (List Nat)} {ks : List Nat} {w w' : World} {v : Value} (h : o = .ok ks) (hw : ListR w o v w') : ∃ A' c', v = .tuple #[.slice A' ks.length c', .int .i64 0] ∧ St w noF [ownM 3 1 A' ks.length c' (ncl ks)] w' := by subst h; exact hw
def conO (c : Chain) (l : List Gauge) : Except Int (List Nat) := match wholeO c l true with
  | .ok _ => .error 3
  | .error e => if e = 3 then .ok (spK (sufP c l 0 0 0 true) l.length) else .error e
theorem con_bad {c : Chain} {l : List Gauge} (h : checkE c l ≠ 0) : conO c l = .error (checkE c l) := by
  have h3 : checkE c l ≠ 3 := by
    intro e
    unfold checkE at e
    split at e
    · split at e
      · split at e
        · cases e
        · cases e
      · cases e
    · cases e
  unfold conO wholeO
  rw [if_pos h]
  exact if_neg h3
theorem con_cases {c : Chain} {l : List Gauge} (h : checkE c l = 0) : conO c l = if sufM (weaveW c l yes) 0 0 0 true then .ok (spK (sufP c l 0 0 0 true) l.length) else .error 3 := by
  unfold conO wholeO
  rw [if_neg (by omega), if_pos rfl]
  cases weaveW c l yes <;> rfl
def whyO (c : Chain) (l : List Gauge) (a b most : Int) : Except Int (List Nat) :=
  if checkE c l ≠ 0 then .error (checkE c l) else if isRunB c a b then (if sufP c l a.toNat b.toNat most false yes then .ok (spK (sufP c l a.toNat b.toNat most false) l.length) else .error 3) else .error 1
theorem why_err {c : Chain} {l : List Gauge} {a b most e : Int} (h : wholeO c l (isRunB c a b) = .error e) (he : e ≠ 3) : whyO c l a b most = .error e := by
  unfold wholeO at h
  unfold whyO
  split at h
  · rename_i h1
    rw [if_pos h1]
    cases h; rfl
  · rename_i h1
    rw [if_neg h1]
    split at h
    · split at h
      · cases h
      · cases h; exact absurd rfl he
    · rename_i h2
      rw [if_neg h2]
      cases h; rfl


set_option maxRecDepth 100000 in
set_option maxHeartbeats 1000000 in
theorem chain_Conflict (links pitch limit : Int) (l : List Gauge) (A : Option Addr) (cp : Nat) (w : World) (hl : InS w noF 4 A l.length (gcell l)) (hn : l.length ≤ 9223372036854775807) :
    Calls Try.prog 51 [.agg [.int .i64 links, .int .i64 pitch, .int .i64 limit].toArray, .slice A l.length cp].toArray w (Ret (ListR w (conO (⟨links, pitch, limit⟩ : Chain) l))) := by
  refine enter Try.func51 rfl Try.ntmps51 rfl (fun a H => ?_)
  have S := St.start w
  refine seq_list (fun K1 hK1 => ?_)
  refine list_box H rfl S rfl rfl ?_; clear H a S; intro b2 _ a hb2 hbw2 S H
  refine list_box H rfl S rfl rfl ?_; clear H a S; intro b3 _ a hb3 hbw3 S H
  refine list_does H rfl (does_assign rfl) ?_; clear H a; intro a H
  refine list_does H rfl (does_assign rfl) ?_; clear H a; intro a H
  refine hK1 _ _ ?_
  clear hK1 K1
  rcases hW : wholeO (⟨links, pitch, limit⟩ : Chain) l true with e | M
  · skip
    have he := wholeO_err hW
    replace H := H.keep [2, 3] rfl
    refine seq_list (fun K2 hK2 => ?_)
    refine list_does H rfl (by first | exact does_loadBox agg_23 sz_23 rfl S (i := 0) rfl rfl | exact does_loadBox agg_23 sz_23 rfl S (i := 1) rfl rfl) ?_; clear H a; intro a H
    refine list_does H rfl (does_load one_24 rfl (by first | exact boxM.rd S (i := 0) rfl rfl | exact boxM.rd S (i := 1) rfl rfl)) ?_; clear H a; intro a H
    refine list_call H rfl rfl Try.func60 rfl rfl (ret_imp (chain_whole links pitch limit l A cp (true) _ (hl.now S) hn) (fun _ _ => whole_err hW)) ?_; clear H a
    rintro _ _ a ⟨rfl, S2⟩ H
    replace S := S.call S2; clear S2
    refine list_does H rfl (does_move rfl) ?_; clear H a; intro a H
    refine list_does H rfl (does_extract rfl rfl) ?_; clear H a; intro a H
    refine list_does H rfl (does_extract rfl rfl) ?_; clear H a; intro a H
    refine list_does H rfl (does_assign rfl) ?_; clear H a; intro a H
    refine list_does H rfl (does_assign rfl) ?_; clear H a; intro a H
    refine hK2 _ _ ?_
    clear hK2 K2
    refine wp_seq_k (fun K3 hK3 => ?_)
    replace H := H.keep [2, 3, 7] rfl
    refine seq_still (fun K4 hK4 => ?_)
    refine still_does H rfl (does_move rfl) ?_; clear H a; intro a H
    refine still_does H rfl (does_eql rfl rfl) ?_; clear H a; intro a H
    refine wpStill_nil (hK4 _ ?_)
    clear hK4 K4
    refine cond_ H rfl (fun hc1 => ?_) (fun hc1 => ?_)
    · try simp only [Bool.or_eq_true, Bool.and_eq_true, Bool.not_eq_true', Bool.or_eq_false_iff, Bool.and_eq_false_iff, Bool.not_eq_false', decide_eq_true_eq, decide_eq_false_iff_not, Int.not_lt, Int.not_le] at hc1
      exfalso; omega
    · try simp only [Bool.or_eq_true, Bool.and_eq_true, Bool.not_eq_true', Bool.or_eq_false_iff, Bool.and_eq_false_iff, Bool.not_eq_false', decide_eq_true_eq, decide_eq_false_iff_not, Int.not_lt, Int.not_le] at hc1
      refine wp_skip ?_
      refine hK3 _ _ ?_
      refine wp_seq_k (fun K5 hK5 => ?_)
      replace H := H.keep [2, 3, 7] rfl
      refine seq_still (fun K6 hK6 => ?_)
      refine still_does H rfl (does_move rfl) ?_; clear H a; intro a H
      refine still_does H rfl (does_neq rfl rfl) ?_; clear H a; intro a H
      refine wpStill_nil (hK6 _ ?_)
      clear hK6 K6
      refine cond_ H rfl (fun hc2 => ?_) (fun hc2 => ?_)
      · try simp only [Bool.or_eq_true, Bool.and_eq_true, Bool.not_eq_true', Bool.or_eq_false_iff, Bool.and_eq_false_iff, Bool.not_eq_false', decide_eq_true_eq, decide_eq_false_iff_not, Int.not_lt, Int.not_le] at hc2
        replace H := H.keep [7] rfl
        refine seq_still (fun K7 hK7 => ?_)
        refine still_does H rfl (does_move rfl) ?_; clear H a; intro a H
        refine still_does H rfl (does_assign rfl) ?_; clear H a; intro a H
        refine still_does H rfl (does_assign rfl) ?_; clear H a; intro a H
        refine wpStill_nil (hK7 _ ?_)
        clear hK7 K7
        refine wp_ret ?_
        refine ret2 (fn := Try.f51) rfl H rfl rfl ?_
        show ListR _ _ _ _; unfold conO; rw [hW]; (try dsimp only); rw [if_neg (by omega)]; exact ⟨rfl, (S.sel [] rfl rfl)⟩
      · try simp only [Bool.or_eq_true, Bool.and_eq_true, Bool.not_eq_true', Bool.or_eq_false_iff, Bool.and_eq_false_iff, Bool.not_eq_false', decide_eq_true_eq, decide_eq_false_iff_not, Int.not_lt, Int.not_le] at hc2
        refine wp_skip ?_
        refine hK5 _ _ ?_
        obtain rfl : e = 3 := by omega
        have h3 := whole_three hW; have hk := h3.1; have hlen := (checkE_ok hk).2.1
        replace H := H.keep [2, 3] rfl
        refine seq_list (fun K8 hK8 => ?_)
        refine list_does H rfl (does_load one_24 rfl (by first | exact boxM.rd S (i := 0) rfl rfl | exact boxM.rd S (i := 1) rfl rfl)) ?_; clear H a; intro a H
        refine list_does H rfl (does_makeFunc rfl rfl) ?_; clear H a; intro a H
        refine list_call H rfl rfl Try.func78 rfl rfl (chain_spare l A cp 79 _ [.pointer (some ⟨b2, 0, none⟩), .pointer (some ⟨b3, 0, none⟩)] (sufP (⟨links, pitch, limit⟩ : Chain) l 0 0 0 true) _ (hl.now S) hlen Try.func79 rfl rfl (fun p f fn caps w1 K h1 h2 h3 h4 => chain_Conflict_1 links pitch limit l A cp p f fn caps b2 b3 w1 (fun j v hv => K.st.cell (boxAgg S (i := 1) rfl j v hv)) (K.st.cell (boxM.rd S (i := 0) rfl rfl)) hk ((hl.now S).now K.st) h1 h2 h3 h4)) ?_; clear H a
        rintro _ _ a ⟨A', c', rfl, S2⟩ H
        replace S := S.call S2; clear S2
        refine list_does H rfl (does_assign rfl) ?_; clear H a; intro a H
        refine list_does H rfl (does_assign rfl) ?_; clear H a; intro a H
        refine hK8 _ _ ?_
        clear hK8 K8
        refine wp_ret ?_
        refine ret2 (fn := Try.f51) rfl H rfl rfl ?_
        show ListR _ _ _ _; unfold conO; rw [hW]; exact ⟨A', c', rfl, (S.sel [0] rfl rfl)⟩
  · skip
    skip
    replace H := H.keep [2, 3] rfl
    refine seq_list (fun K9 hK9 => ?_)
    refine list_does H rfl (by first | exact does_loadBox agg_23 sz_23 rfl S (i := 0) rfl rfl | exact does_loadBox agg_23 sz_23 rfl S (i := 1) rfl rfl) ?_; clear H a; intro a H
    refine list_does H rfl (does_load one_24 rfl (by first | exact boxM.rd S (i := 0) rfl rfl | exact boxM.rd S (i := 1) rfl rfl)) ?_; clear H a; intro a H
    refine list_call H rfl rfl Try.func60 rfl rfl (ret_imp (chain_whole links pitch limit l A cp (true) _ (hl.now S) hn) (fun _ _ => whole_ok hW)) ?_; clear H a
    rintro _ _ a ⟨W, rb, rc, rfl, S2⟩ H
    replace S := S.call S2; clear S2
    refine list_does H rfl (does_move rfl) ?_; clear H a; intro a H
    refine list_does H rfl (does_extract rfl rfl) ?_; clear H a; intro a H
    refine list_does H rfl (does_extract rfl rfl) ?_; clear H a; intro a H
    refine list_does H rfl (does_assign rfl) ?_; clear H a; intro a H
    refine list_does H rfl (does_assign rfl) ?_; clear H a; intro a H
    refine hK9 _ _ ?_
    clear hK9 K9
    refine wp_seq_k (fun K10 hK10 => ?_)
    replace H := H.keep [2, 3, 7] rfl
    refine seq_still (fun K11 hK11 => ?_)
    refine still_does H rfl (does_move rfl) ?_; clear H a; intro a H
    refine still_does H rfl (does_eql rfl rfl) ?_; clear H a; intro a H
    refine wpStill_nil (hK11 _ ?_)
    clear hK11 K11
    refine cond_ H rfl (fun hc3 => ?_) (fun hc3 => ?_)
    · skip
      replace H := H.keep [] rfl
      refine seq_still (fun K12 hK12 => ?_)
      refine still_does H rfl (does_assign rfl) ?_; clear H a; intro a H
      refine still_does H rfl (does_assign rfl) ?_; clear H a; intro a H
      refine wpStill_nil (hK12 _ ?_)
      clear hK12 K12
      refine wp_ret ?_
      refine ret2 (fn := Try.f51) rfl H rfl rfl ?_
      show ListR _ _ _ _; unfold conO; rw [hW]; exact ⟨rfl, (S.sel [] rfl rfl)⟩
    · skip
      simp at hc3

set_option maxRecDepth 100000 in
set_option maxHeartbeats 1000000 in
theorem chain_Why_1 (links pitch limit : Int) (l : List Gauge) (A : Option Addr) (cp : Nat) (p : Nat → Bool) (f : Nat) (fn : Func) (caps : List Value) (b5 b6 b7 b8 b9 : Nat) (xf xt : Nat) (most : Int) (w : World) (h5 : ∀ (j : Nat) v, [.int .i64 links, .int .i64 pitch, .int .i64 limit][j]? = some v → w.cell? ⟨b5, 0 + j, none⟩ = some v) (h6 : w.cell? ⟨b6, 0, none⟩ = some (.slice A l.length cp)) (h7 : w.cell? ⟨b7, 0, none⟩ = some (.int .i64 (xf : Int))) (h8 : w.cell? ⟨b8, 0, none⟩ = some (.int .i64 (xt : Int))) (h9 : w.cell? ⟨b9, 0, none⟩ = some (.int .i64 most)) (hxf : xf ≤ links.toNat) (hxt : xt ≤ links.toNat) (hk : checkE (⟨links, pitch, limit⟩ : Chain) l = 0) (hl : InS w noF 4 A l.length (gcell l)) (hf : Try.prog.funcs[f]? = some fn) (hfb : fn.body.isNone = false) (hfn : (fn.name == "runtime.NumGoroutine") = false) (hcall : ∀ (k : Nat) (w' : World), k < l.length → Keeps w w' noF → Calls Try.prog f (.int .i64 (k : Int) :: caps).toArray w' (Ret fun v w'' => v = .bool (p k) ∧ w'' = w')) :
    Calls Try.prog 83 [.func (.func f) [].toArray caps.toArray, .pointer (some ⟨b5, 0, none⟩), .pointer (some ⟨b6, 0, none⟩), .pointer (some ⟨b7, 0, none⟩), .pointer (some ⟨b8, 0, none⟩), .pointer (some ⟨b9, 0, none⟩)].toArray w (Ret (fun v w' => v = .bool (sufP (⟨links, pitch, limit⟩ : Chain) l xf xt most false p) ∧ St w noF [] w')) := by
  have hnn : Chain.n (⟨links, pitch, limit⟩ : Chain) = links.toNat + 1 := rfl
  refine enter Try.func83 rfl Try.ntmps83 rfl (fun a H => ?_)
  have S := St.start w
  refine seq_still (fun K1 hK1 => ?_)
  refine still_does H rfl (does_assign rfl) ?_; clear H a; intro a H
  refine wpStill_nil (hK1 _ ?_)
  clear hK1 K1
  rcases hW : weaveW (⟨links, pitch, limit⟩ : Chain) l p with _ | M
  · skip
    replace H := H.keep [0, 1, 2, 3, 4, 5] rfl
    refine seq_list (fun K2 hK2 => ?_)
    refine list_does H rfl (does_loadAgg (vs := [.int .i64 links, .int .i64 pitch, .int .i64 limit]) agg_23 sz_23 rfl h5) ?_; clear H a; intro a H
    refine list_does H rfl (does_load one_24 rfl h6) ?_; clear H a; intro a H
    refine list_does H rfl (does_move rfl) ?_; clear H a; intro a H
    refine list_call H rfl rfl Try.func80 rfl rfl (ret_imp (chain_weaveI links pitch limit l A cp p f fn caps _ hk (hl.now S) hf hfb hfn hcall) (fun _ _ => woven_none hW)) ?_; clear H a
    rintro _ _ a ⟨rfl, S2⟩ H
    replace S := S.call S2; clear S2
    refine list_does H rfl (does_move rfl) ?_; clear H a; intro a H
    refine list_does H rfl (does_extract rfl rfl) ?_; clear H a; intro a H
    refine list_does H rfl (does_extract rfl rfl) ?_; clear H a; intro a H
    refine list_does H rfl (does_assign rfl) ?_; clear H a; intro a H
    refine list_does H rfl (does_assign rfl) ?_; clear H a; intro a H
    refine hK2 _ _ ?_
    clear hK2 K2
    replace H := H.keep [3, 4, 5, 8, 9] rfl
    refine seq_stillD (by kernel_rfl) (by kernel_rfl) (fun K3 hK3 => ?_)
    replace S := S.drew
    refine still_does H rfl (does_move rfl) ?_; clear H a; intro a H
    refine still_does H rfl (does_not rfl) ?_; clear H a; intro a H
    refine still_does H rfl (does_move rfl) ?_; clear H a; intro a H
    refine still_no H rfl rfl rfl rfl ?_; clear H a; intro a H
    refine still_no H rfl rfl rfl rfl ?_; clear H a; intro a H
    refine still_no H rfl rfl rfl rfl ?_; clear H a; intro a H
    refine still_no H rfl rfl rfl rfl ?_; clear H a; intro a H
    refine still_no H rfl rfl rfl rfl ?_; clear H a; intro a H
    refine still_no H rfl rfl rfl rfl ?_; clear H a; intro a H
    refine still_no H rfl rfl rfl rfl ?_; clear H a; intro a H
    refine still_no H rfl rfl rfl rfl ?_; clear H a; intro a H
    refine still_no H rfl rfl rfl rfl ?_; clear H a; intro a H
    refine still_does H rfl (by first | exact does_or rfl rfl rfl | exact does_pick rfl rfl rfl) ?_; clear H a; intro a H
    refine still_does H rfl (does_assign rfl) ?_; clear H a; intro a H
    refine wpStill_nil (hK3 _ ?_)
    clear hK3 K3
    refine wp_ret ?_
    refine ret1 (fn := Try.f83) rfl H rfl ?_
    refine ⟨?_, (S.sel [] rfl rfl)⟩; unfold sufP; rw [hW]; rfl
  · skip
    replace H := H.keep [0, 1, 2, 3, 4, 5] rfl
    refine seq_list (fun K4 hK4 => ?_)
    refine list_does H rfl (does_loadAgg (vs := [.int .i64 links, .int .i64 pitch, .int .i64 limit]) agg_23 sz_23 rfl h5) ?_; clear H a; intro a H
    refine list_does H rfl (does_load one_24 rfl h6) ?_; clear H a; intro a H
    refine list_does H rfl (does_move rfl) ?_; clear H a; intro a H
    refine list_call H rfl rfl Try.func80 rfl rfl (ret_imp (chain_weaveI links pitch limit l A cp p f fn caps _ hk (hl.now S) hf hfb hfn hcall) (fun _ _ => woven_some hW)) ?_; clear H a
    rintro _ _ a ⟨W, rb, rc, rfl, S2⟩ H
    replace S := S.call S2; clear S2
    refine list_does H rfl (does_move rfl) ?_; clear H a; intro a H
    refine list_does H rfl (does_extract rfl rfl) ?_; clear H a; intro a H
    refine list_does H rfl (does_extract rfl rfl) ?_; clear H a; intro a H
    refine list_does H rfl (does_assign rfl) ?_; clear H a; intro a H
    refine list_does H rfl (does_assign rfl) ?_; clear H a; intro a H
    refine hK4 _ _ ?_
    clear hK4 K4
    replace H := H.keep [3, 4, 5, 8, 9] rfl
    refine seq_stillD (by kernel_rfl) (by kernel_rfl) (fun K5 hK5 => ?_)
    replace S := S.drew
    refine still_does H rfl (does_move rfl) ?_; clear H a; intro a H
    refine still_does H rfl (does_not rfl) ?_; clear H a; intro a H
    refine still_does H rfl (does_move rfl) ?_; clear H a; intro a H
    refine still_yes H rfl rfl ?_
    refine still_does H rfl (does_move rfl) ?_; clear H a; intro a H
    refine still_yes H rfl rfl ?_
    refine still_does H rfl (does_load one_3 rfl (by first | exact S.cell h7 | exact S.cell h8 | exact S.cell h9 | exact ownM.rd S (i := 0) rfl (by omega) (by omega) | exact rowsM.rd S (i := 1) rfl (by omega) (by omega) | exact boxM.rd S (i := 0) rfl rfl | exact boxM.rd S (i := 1) rfl rfl)) ?_; clear H a; intro a H
    refine still_yes H rfl rfl ?_
    refine still_does H rfl (by first | exact does_indexN sl_94 sz_29 rfl rfl (by first | exact ownM.adr S (i := 0) rfl (by omega) | exact rfl) (by first | omega | omega) | exact does_index sl_94 sz_29 rfl rfl (by first | exact ownM.adr S (i := 0) rfl (by omega) | exact rfl) (by omega) (by first | omega | omega)) ?_; clear H a; intro a H
    refine still_yes H rfl rfl ?_
    refine still_does H rfl (does_load one_29 rfl (by first | exact S.cell h7 | exact S.cell h8 | exact S.cell h9 | exact ownM.rd S (i := 0) rfl (by omega) (by omega) | exact rowsM.rd S (i := 1) rfl (by omega) (by omega) | exact boxM.rd S (i := 0) rfl rfl | exact boxM.rd S (i := 1) rfl rfl)) ?_; clear H a; intro a H
    refine still_yes H rfl rfl ?_
    refine still_does H rfl (does_load one_3 rfl (by first | exact S.cell h7 | exact S.cell h8 | exact S.cell h9 | exact ownM.rd S (i := 0) rfl (by omega) (by omega) | exact rowsM.rd S (i := 1) rfl (by omega) (by omega) | exact boxM.rd S (i := 0) rfl rfl | exact boxM.rd S (i := 1) rfl rfl)) ?_; clear H a; intro a H
    refine still_yes H rfl rfl ?_
    refine still_does H rfl (by first | exact does_indexN sl_29 sz_3 rfl rfl (by first | exact ownM.adr S (i := 0) rfl (by omega) | exact rfl) (by first | omega | omega) | exact does_index sl_29 sz_3 rfl rfl (by first | exact ownM.adr S (i := 0) rfl (by omega) | exact rfl) (by omega) (by first | omega | omega)) ?_; clear H a; intro a H
    refine still_yes H rfl rfl ?_
    refine still_does H rfl (does_load one_3 rfl (by first | exact S.cell h7 | exact S.cell h8 | exact S.cell h9 | exact ownM.rd S (i := 0) rfl (by omega) (by omega) | exact rowsM.rd S (i := 1) rfl (by omega) (by omega) | exact boxM.rd S (i := 0) rfl rfl | exact boxM.rd S (i := 1) rfl rfl)) ?_; clear H a; intro a H
    refine still_yes H rfl rfl ?_
    refine still_does H rfl (does_load one_3 rfl (by first | exact S.cell h7 | exact S.cell h8 | exact S.cell h9 | exact ownM.rd S (i := 0) rfl (by omega) (by omega) | exact rowsM.rd S (i := 1) rfl (by omega) (by omega) | exact boxM.rd S (i := 0) rfl rfl | exact boxM.rd S (i := 1) rfl rfl)) ?_; clear H a; intro a H
    refine still_yes H rfl rfl ?_
    refine still_does H rfl (does_leq rfl rfl) ?_; clear H a; intro a H
    refine still_does H rfl (by first | exact does_or rfl rfl rfl | exact does_pick rfl rfl rfl) ?_; clear H a; intro a H
    refine still_does H rfl (does_assign rfl) ?_; clear H a; intro a H
    refine wpStill_nil (hK5 _ ?_)
    clear hK5 K5
    refine wp_ret ?_
    refine ret1 (fn := Try.f83) rfl H rfl ?_
    refine ⟨?_, (S.sel [] rfl rfl)⟩; unfold sufP; rw [hW]; rfl

set_option maxRecDepth 100000 in
set_option maxHeartbeats 1000000 in
theorem chain_Why_2 (k : Int) (w : World) :
    Calls Try.prog 84 [.int .i64 k].toArray w (Ret (fun v w' => v = .bool true ∧ w' = w)) := by
  refine enter Try.func84 rfl Try.ntmps84 rfl (fun a H => ?_)
  have S := St.start w
  refine seq_still (fun K1 hK1 => ?_)
  refine still_does H rfl (does_assign rfl) ?_; clear H a; intro a H
  refine wpStill_nil (hK1 _ ?_)
  clear hK1 K1
  replace H := H.keep [] rfl
  refine seq_still (fun K2 hK2 => ?_)
  refine still_does H rfl (does_assign rfl) ?_; clear H a; intro a H
  refine wpStill_nil (hK2 _ ?_)
  clear hK2 K2
  refine wp_ret ?_
  refine ret1 (fn := Try.f84) rfl H rfl ?_
  exact ⟨rfl, rfl⟩

set_option maxRecDepth 100000 in
set_option maxHeartbeats 1000000 in
theorem chain_Why (links pitch limit : Int) (l : List Gauge) (A : Option Addr) (cp : Nat) (xf xt most : Int) (w : World) (hl : InS w noF 4 A l.length (gcell l)) (hn : l.length ≤ 9223372036854775807) :
    Calls Try.prog 53 [.agg [.int .i64 links, .int .i64 pitch, .int .i64 limit].toArray, .slice A l.length cp, .int .i64 xf, .int .i64 xt, .int .i64 most].toArray w (Ret (ListR w (whyO (⟨links, pitch, limit⟩ : Chain) l xf xt most))) := by
  refine enter Try.func53 rfl Try.ntmps53 rfl (fun a H => ?_)
  have S := St.start w
  refine seq_list (fun K1 hK1 => ?_)
  refine list_box H rfl S rfl rfl ?_; clear H a S; intro b5 _ a hb5 hbw5 S H
  refine list_box H rfl S rfl rfl ?_; clear H a S; intro b6 _ a hb6 hbw6 S H
  refine list_box H rfl S rfl rfl ?_; clear H a S; intro b7 _ a hb7 hbw7 S H
  refine list_box H rfl S rfl rfl ?_; clear H a S; intro b8 _ a hb8 hbw8 S H
  refine list_box H rfl S rfl rfl ?_; clear H a S; intro b9 _ a hb9 hbw9 S H
  refine list_does H rfl (does_assign rfl) ?_; clear H a; intro a H
  refine list_does H rfl (does_assign rfl) ?_; clear H a; intro a H
  refine hK1 _ _ ?_
  clear hK1 K1
  refine wp_seq_k (fun K2 hK2 => ?_)
  rcases hW : wholeO (⟨links, pitch, limit⟩ : Chain) l (isRunB (⟨links, pitch, limit⟩ : Chain) xf xt) with e | M
  · skip
    have he := wholeO_err hW
    replace H := H.keep [5, 6, 7, 8, 9] rfl
    replace S := S.drew
    refine seq_wq [(0, true), (1, true), (2, true), (3, true), (4, true), (5, false), (6, false), (7, true), (8, true), (9, true), (10, true), (11, true)] (by kernel_rfl) (by kernel_rfl) (S.sel [0, 1, 2, 3, 4] rfl rfl) (fun K3 hK3 => ?_)
    refine wq_does H rfl rfl (fun _ S => by first | exact does_loadBox agg_23 sz_23 rfl S (i := 0) rfl rfl | exact does_loadBox agg_23 sz_23 rfl S (i := 1) rfl rfl | exact does_loadBox agg_23 sz_23 rfl S (i := 2) rfl rfl | exact does_loadBox agg_23 sz_23 rfl S (i := 3) rfl rfl | exact does_loadBox agg_23 sz_23 rfl S (i := 4) rfl rfl) ?_; clear H a; intro a H
    refine wq_does H rfl rfl (fun _ S => does_load one_24 rfl (by first | exact boxM.rd S (i := 0) rfl rfl | exact boxM.rd S (i := 1) rfl rfl | exact boxM.rd S (i := 2) rfl rfl | exact boxM.rd S (i := 3) rfl rfl | exact boxM.rd S (i := 4) rfl rfl)) ?_; clear H a; intro a H
    refine wq_does H rfl rfl (fun _ S => by first | exact does_loadBox agg_23 sz_23 rfl S (i := 0) rfl rfl | exact does_loadBox agg_23 sz_23 rfl S (i := 1) rfl rfl | exact does_loadBox agg_23 sz_23 rfl S (i := 2) rfl rfl | exact does_loadBox agg_23 sz_23 rfl S (i := 3) rfl rfl | exact does_loadBox agg_23 sz_23 rfl S (i := 4) rfl rfl) ?_; clear H a; intro a H
    refine wq_does H rfl rfl (fun _ S => does_load one_3 rfl (by first | exact boxM.rd S (i := 0) rfl rfl | exact boxM.rd S (i := 1) rfl rfl | exact boxM.rd S (i := 2) rfl rfl | exact boxM.rd S (i := 3) rfl rfl | exact boxM.rd S (i := 4) rfl rfl)) ?_; clear H a; intro a H
    refine wq_does H rfl rfl (fun _ S => does_load one_3 rfl (by first | exact boxM.rd S (i := 0) rfl rfl | exact boxM.rd S (i := 1) rfl rfl | exact boxM.rd S (i := 2) rfl rfl | exact boxM.rd S (i := 3) rfl rfl | exact boxM.rd S (i := 4) rfl rfl)) ?_; clear H a; intro a H
    refine wq_eff rfl ?_
    refine list_call H rfl rfl Try.func61 rfl rfl (chain_isRun links pitch limit xf xt _) ?_; clear H a
    rintro _ _ a ⟨rfl, S2⟩ H
    replace S := S.call S2; clear S2
    refine wpList_nil (And.intro (S.sel [0, 1, 2, 3, 4] rfl rfl) ?_)
    refine wq_eff rfl ?_
    refine list_call H rfl rfl Try.func60 rfl rfl (ret_imp (chain_whole links pitch limit l A cp (isRunB (⟨links, pitch, limit⟩ : Chain) xf xt) _ (hl.now S) hn) (fun _ _ => whole_err hW)) ?_; clear H a
    rintro _ _ a ⟨rfl, S2⟩ H
    replace S := S.call S2; clear S2
    refine wpList_nil (And.intro (S.sel [0, 1, 2, 3, 4] rfl rfl) ?_)
    refine wq_does H rfl rfl (fun _ S => does_move rfl) ?_; clear H a; intro a H
    refine wq_does H rfl rfl (fun _ S => does_extract rfl rfl) ?_; clear H a; intro a H
    refine wq_does H rfl rfl (fun _ S => does_extract rfl rfl) ?_; clear H a; intro a H
    refine wq_does H rfl rfl (fun _ S => does_assign rfl) ?_; clear H a; intro a H
    refine wq_does H rfl rfl (fun _ S => does_assign rfl) ?_; clear H a; intro a H
    refine wq_nil ?_
    refine hK3 _ _ ?_
    clear hK3 K3
    replace H := H.keep [5, 6, 7, 8, 9, 13] rfl
    refine seq_still (fun K4 hK4 => ?_)
    refine still_does H rfl (does_move rfl) ?_; clear H a; intro a H
    refine still_does H rfl (does_neq rfl rfl) ?_; clear H a; intro a H
    refine still_does H rfl (does_move rfl) ?_; clear H a; intro a H
    apply still_guard (i := 2) (g := 27) (t := 29) (b := true) 2 H rfl rfl (by kernel_rfl) (by kernel_rfl) rfl rfl
    case h1 =>
      intro hg3
      refine still_yes' H rfl rfl (by assumption) ?_
      refine still_does H rfl (does_move rfl) ?_; intro a H
      refine still_yes' H rfl rfl (by assumption) ?_
      refine still_does H rfl (does_neq rfl rfl) ?_; intro a H
      exact wpStill_nil (H.strip 2 rfl rfl)
    case k =>
      clear H a; intro a H
      refine still_does H rfl (by first | exact does_and rfl rfl rfl | exact does_pick rfl rfl rfl) ?_; clear H a; intro a H
      refine wpStill_nil (hK4 _ ?_)
      clear hK4 K4
      refine cond_ H rfl (fun hc1 => ?_) (fun hc1 => ?_)
      · try simp only [Bool.or_eq_true, Bool.and_eq_true, Bool.not_eq_true', Bool.or_eq_false_iff, Bool.and_eq_false_iff, Bool.not_eq_false', decide_eq_true_eq, decide_eq_false_iff_not, Int.not_lt, Int.not_le] at hc1
        replace H := H.keep [13] rfl
        refine seq_still (fun K5 hK5 => ?_)
        refine still_does H rfl (does_move rfl) ?_; clear H a; intro a H
        refine still_does H rfl (does_assign rfl) ?_; clear H a; intro a H
        refine still_does H rfl (does_assign rfl) ?_; clear H a; intro a H
        refine wpStill_nil (hK5 _ ?_)
        clear hK5 K5
        refine wp_ret ?_
        refine ret2 (fn := Try.f53) rfl H rfl rfl ?_
        have e9 := why_err hW (by omega) (most := most)
        show ListR _ _ _ _; rw [e9]; exact ⟨rfl, (S.sel [] rfl rfl)⟩
      · try simp only [Bool.or_eq_true, Bool.and_eq_true, Bool.not_eq_true', Bool.or_eq_false_iff, Bool.and_eq_false_iff, Bool.not_eq_false', decide_eq_true_eq, decide_eq_false_iff_not, Int.not_lt, Int.not_le] at hc1
        refine wp_skip ?_
        refine hK2 _ _ ?_
        have hkr : checkE (⟨links, pitch, limit⟩ : Chain) l = 0 ∧ isRunB (⟨links, pitch, limit⟩ : Chain) xf xt = true := by
          first | exact ⟨(wholeO_ok hW).1, (wholeO_ok hW).2.1⟩ | exact kr_err hW (by omega)
        have hk := hkr.1; have hlen := (checkE_ok hk).2.1
        have hr := hkr.2; unfold isRunB at hr; simp only [Bool.and_eq_true, decide_eq_true_eq] at hr
        obtain ⟨x1, rfl⟩ := Int.eq_ofNat_of_zero_le hr.1.1
        obtain ⟨x2, rfl⟩ := Int.eq_ofNat_of_zero_le (show 0 ≤ xt by omega)
        have hx1 : x1 ≤ links.toNat := by omega
        have hx2 : x2 ≤ links.toNat := by omega
        replace H := H.keep [5, 6, 7, 8, 9] rfl
        refine seq_still (fun K6 hK6 => ?_)
        refine still_does H rfl (does_makeFunc rfl rfl) ?_; clear H a; intro a H
        refine still_does H rfl (does_assign rfl) ?_; clear H a; intro a H
        refine wpStill_nil (hK6 _ ?_)
        clear hK6 K6
        refine wp_seq_k (fun K7 hK7 => ?_)
        replace H := H.keep [6, 14] rfl
        refine seq_list (fun K8 hK8 => ?_)
        refine list_does H rfl (does_move rfl) ?_; clear H a; intro a H
        refine list_callv (fs := []) (cs := [.pointer (some ⟨b5, 0, none⟩), .pointer (some ⟨b6, 0, none⟩), .pointer (some ⟨b7, 0, none⟩), .pointer (some ⟨b8, 0, none⟩), .pointer (some ⟨b9, 0, none⟩)]) (vs := [.func (.func 84) [].toArray [].toArray]) H rfl rfl rfl Try.func83 rfl rfl (chain_Why_1 links pitch limit l A cp yes 84 _ [] b5 b6 b7 b8 b9 x1 x2 most _ (boxAgg S (i := 4) rfl) (boxM.rd S (i := 3) rfl rfl) (boxM.rd S (i := 2) rfl rfl) (boxM.rd S (i := 1) rfl rfl) (boxM.rd S (i := 0) rfl rfl) hx1 hx2 hk (hl.now S) Try.func84 rfl rfl (fun k w' _ _ => chain_Why_2 k w')) ?_; clear H a
        rintro _ _ a ⟨rfl, S2⟩ H
        replace S := S.call S2; clear S2
        refine list_does H rfl (does_not rfl) ?_; clear H a; intro a H
        refine hK8 _ _ ?_
        clear hK8 K8
        refine cond_ H rfl (fun hc2 => ?_) (fun hc2 => ?_)
        · skip
          replace H := H.keep [] rfl
          refine seq_still (fun K9 hK9 => ?_)
          refine still_does H rfl (does_assign rfl) ?_; clear H a; intro a H
          refine still_does H rfl (does_assign rfl) ?_; clear H a; intro a H
          refine wpStill_nil (hK9 _ ?_)
          clear hK9 K9
          refine wp_ret ?_
          refine ret2 (fn := Try.f53) rfl H rfl rfl ?_
          show ListR _ _ _ _; unfold whyO; rw [if_neg (by omega), hkr.2, if_pos rfl, if_neg (by simpa using hc2)]; exact ⟨rfl, (S.sel [] rfl rfl)⟩
        · skip
          refine wp_skip ?_
          refine hK7 _ _ ?_
          replace H := H.keep [6, 14] rfl
          refine seq_list (fun K10 hK10 => ?_)
          refine list_does H rfl (does_load one_24 rfl (by first | exact boxM.rd S (i := 0) rfl rfl | exact boxM.rd S (i := 1) rfl rfl | exact boxM.rd S (i := 2) rfl rfl | exact boxM.rd S (i := 3) rfl rfl | exact boxM.rd S (i := 4) rfl rfl)) ?_; clear H a; intro a H
          refine list_does H rfl (does_move rfl) ?_; clear H a; intro a H
          refine list_call H rfl rfl Try.func78 rfl rfl (chain_spare l A cp 83 _ [.pointer (some ⟨b5, 0, none⟩), .pointer (some ⟨b6, 0, none⟩), .pointer (some ⟨b7, 0, none⟩), .pointer (some ⟨b8, 0, none⟩), .pointer (some ⟨b9, 0, none⟩)] (sufP (⟨links, pitch, limit⟩ : Chain) l x1 x2 most false) _ (hl.now S) hlen Try.func83 rfl rfl (fun p f fn caps w1 K h1 h2 h3 h4 => chain_Why_1 links pitch limit l A cp p f fn caps b5 b6 b7 b8 b9 x1 x2 most w1 (fun j v hv => K.st.cell (boxAgg S (i := 4) rfl j v hv)) (K.st.cell (boxM.rd S (i := 3) rfl rfl)) (K.st.cell (boxM.rd S (i := 2) rfl rfl)) (K.st.cell (boxM.rd S (i := 1) rfl rfl)) (K.st.cell (boxM.rd S (i := 0) rfl rfl)) hx1 hx2 hk ((hl.now S).now K.st) h1 h2 h3 h4)) ?_; clear H a
          rintro _ _ a ⟨A', c', rfl, S2⟩ H
          replace S := S.call S2; clear S2
          refine list_does H rfl (does_assign rfl) ?_; clear H a; intro a H
          refine list_does H rfl (does_assign rfl) ?_; clear H a; intro a H
          refine hK10 _ _ ?_
          clear hK10 K10
          refine wp_ret ?_
          refine ret2 (fn := Try.f53) rfl H rfl rfl ?_
          show ListR _ _ _ _; unfold whyO; rw [if_neg (by omega), hkr.2, if_pos rfl, if_pos (by simpa using hc2)]; exact ⟨A', c', rfl, (S.sel [0] rfl rfl)⟩
  · skip
    skip
    replace H := H.keep [5, 6, 7, 8, 9] rfl
    replace S := S.drew
    refine seq_wq [(0, true), (1, true), (2, true), (3, true), (4, true), (5, false), (6, false), (7, true), (8, true), (9, true), (10, true), (11, true)] (by kernel_rfl) (by kernel_rfl) (S.sel [0, 1, 2, 3, 4] rfl rfl) (fun K11 hK11 => ?_)
    refine wq_does H rfl rfl (fun _ S => by first | exact does_loadBox agg_23 sz_23 rfl S (i := 0) rfl rfl | exact does_loadBox agg_23 sz_23 rfl S (i := 1) rfl rfl | exact does_loadBox agg_23 sz_23 rfl S (i := 2) rfl rfl | exact does_loadBox agg_23 sz_23 rfl S (i := 3) rfl rfl | exact does_loadBox agg_23 sz_23 rfl S (i := 4) rfl rfl) ?_; clear H a; intro a H
    refine wq_does H rfl rfl (fun _ S => does_load one_24 rfl (by first | exact boxM.rd S (i := 0) rfl rfl | exact boxM.rd S (i := 1) rfl rfl | exact boxM.rd S (i := 2) rfl rfl | exact boxM.rd S (i := 3) rfl rfl | exact boxM.rd S (i := 4) rfl rfl)) ?_; clear H a; intro a H
    refine wq_does H rfl rfl (fun _ S => by first | exact does_loadBox agg_23 sz_23 rfl S (i := 0) rfl rfl | exact does_loadBox agg_23 sz_23 rfl S (i := 1) rfl rfl | exact does_loadBox agg_23 sz_23 rfl S (i := 2) rfl rfl | exact does_loadBox agg_23 sz_23 rfl S (i := 3) rfl rfl | exact does_loadBox agg_23 sz_23 rfl S (i := 4) rfl rfl) ?_; clear H a; intro a H
    refine wq_does H rfl rfl (fun _ S => does_load one_3 rfl (by first | exact boxM.rd S (i := 0) rfl rfl | exact boxM.rd S (i := 1) rfl rfl | exact boxM.rd S (i := 2) rfl rfl | exact boxM.rd S (i := 3) rfl rfl | exact boxM.rd S (i := 4) rfl rfl)) ?_; clear H a; intro a H
    refine wq_does H rfl rfl (fun _ S => does_load one_3 rfl (by first | exact boxM.rd S (i := 0) rfl rfl | exact boxM.rd S (i := 1) rfl rfl | exact boxM.rd S (i := 2) rfl rfl | exact boxM.rd S (i := 3) rfl rfl | exact boxM.rd S (i := 4) rfl rfl)) ?_; clear H a; intro a H
    refine wq_eff rfl ?_
    refine list_call H rfl rfl Try.func61 rfl rfl (chain_isRun links pitch limit xf xt _) ?_; clear H a
    rintro _ _ a ⟨rfl, S2⟩ H
    replace S := S.call S2; clear S2
    refine wpList_nil (And.intro (S.sel [0, 1, 2, 3, 4] rfl rfl) ?_)
    refine wq_eff rfl ?_
    refine list_call H rfl rfl Try.func60 rfl rfl (ret_imp (chain_whole links pitch limit l A cp (isRunB (⟨links, pitch, limit⟩ : Chain) xf xt) _ (hl.now S) hn) (fun _ _ => whole_ok hW)) ?_; clear H a
    rintro _ _ a ⟨W, rb, rc, rfl, S2⟩ H
    replace S := S.call S2; clear S2
    refine wpList_nil (And.intro (S.sel [2, 3, 4, 5, 6] rfl rfl) ?_)
    refine wq_does H rfl rfl (fun _ S => does_move rfl) ?_; clear H a; intro a H
    refine wq_does H rfl rfl (fun _ S => does_extract rfl rfl) ?_; clear H a; intro a H
    refine wq_does H rfl rfl (fun _ S => does_extract rfl rfl) ?_; clear H a; intro a H
    refine wq_does H rfl rfl (fun _ S => does_assign rfl) ?_; clear H a; intro a H
    refine wq_does H rfl rfl (fun _ S => does_assign rfl) ?_; clear H a; intro a H
    refine wq_nil ?_
    refine hK11 _ _ ?_
    clear hK11 K11
    replace H := H.keep [5, 6, 7, 8, 9, 13] rfl
    refine seq_still (fun K12 hK12 => ?_)
    refine still_does H rfl (does_move rfl) ?_; clear H a; intro a H
    refine still_does H rfl (does_neq rfl rfl) ?_; clear H a; intro a H
    refine still_does H rfl (does_move rfl) ?_; clear H a; intro a H
    apply still_guard (i := 2) (g := 27) (t := 29) (b := true) 2 H rfl rfl (by kernel_rfl) (by kernel_rfl) rfl rfl
    case h1 =>
      intro hg3
      refine still_yes' H rfl rfl (by assumption) ?_
      refine still_does H rfl (does_move rfl) ?_; intro a H
      refine still_yes' H rfl rfl (by assumption) ?_
      refine still_does H rfl (does_neq rfl rfl) ?_; intro a H
      exact wpStill_nil (H.strip 2 rfl rfl)
    case k =>
      clear H a; intro a H
      refine still_does H rfl (by first | exact does_and rfl rfl rfl | exact does_pick rfl rfl rfl) ?_; clear H a; intro a H
      refine wpStill_nil (hK12 _ ?_)
      clear hK12 K12
      refine cond_ H rfl (fun hc3 => ?_) (fun hc3 => ?_)
      · skip
        exfalso; simp at hc3
      · skip
        refine wp_skip ?_
        refine hK2 _ _ ?_
        have hkr : checkE (⟨links, pitch, limit⟩ : Chain) l = 0 ∧ isRunB (⟨links, pitch, limit⟩ : Chain) xf xt = true := by
          first | exact ⟨(wholeO_ok hW).1, (wholeO_ok hW).2.1⟩ | exact kr_err hW (by omega)
        have hk := hkr.1; have hlen := (checkE_ok hk).2.1
        have hr := hkr.2; unfold isRunB at hr; simp only [Bool.and_eq_true, decide_eq_true_eq] at hr
        obtain ⟨x1, rfl⟩ := Int.eq_ofNat_of_zero_le hr.1.1
        obtain ⟨x2, rfl⟩ := Int.eq_ofNat_of_zero_le (show 0 ≤ xt by omega)
        have hx1 : x1 ≤ links.toNat := by omega
        have hx2 : x2 ≤ links.toNat := by omega
        replace H := H.keep [5, 6, 7, 8, 9] rfl
        refine seq_still (fun K13 hK13 => ?_)
        refine still_does H rfl (does_makeFunc rfl rfl) ?_; clear H a; intro a H
        refine still_does H rfl (does_assign rfl) ?_; clear H a; intro a H
        refine wpStill_nil (hK13 _ ?_)
        clear hK13 K13
        refine wp_seq_k (fun K14 hK14 => ?_)
        replace H := H.keep [6, 14] rfl
        refine seq_list (fun K15 hK15 => ?_)
        refine list_does H rfl (does_move rfl) ?_; clear H a; intro a H
        refine list_callv (fs := []) (cs := [.pointer (some ⟨b5, 0, none⟩), .pointer (some ⟨b6, 0, none⟩), .pointer (some ⟨b7, 0, none⟩), .pointer (some ⟨b8, 0, none⟩), .pointer (some ⟨b9, 0, none⟩)]) (vs := [.func (.func 84) [].toArray [].toArray]) H rfl rfl rfl Try.func83 rfl rfl (chain_Why_1 links pitch limit l A cp yes 84 _ [] b5 b6 b7 b8 b9 x1 x2 most _ (boxAgg S (i := 6) rfl) (boxM.rd S (i := 5) rfl rfl) (boxM.rd S (i := 4) rfl rfl) (boxM.rd S (i := 3) rfl rfl) (boxM.rd S (i := 2) rfl rfl) hx1 hx2 hk (hl.now S) Try.func84 rfl rfl (fun k w' _ _ => chain_Why_2 k w')) ?_; clear H a
        rintro _ _ a ⟨rfl, S2⟩ H
        replace S := S.call S2; clear S2
        refine list_does H rfl (does_not rfl) ?_; clear H a; intro a H
        refine hK15 _ _ ?_
        clear hK15 K15
        refine cond_ H rfl (fun hc4 => ?_) (fun hc4 => ?_)
        · skip
          replace H := H.keep [] rfl
          refine seq_still (fun K16 hK16 => ?_)
          refine still_does H rfl (does_assign rfl) ?_; clear H a; intro a H
          refine still_does H rfl (does_assign rfl) ?_; clear H a; intro a H
          refine wpStill_nil (hK16 _ ?_)
          clear hK16 K16
          refine wp_ret ?_
          refine ret2 (fn := Try.f53) rfl H rfl rfl ?_
          show ListR _ _ _ _; unfold whyO; rw [if_neg (by omega), hkr.2, if_pos rfl, if_neg (by simpa using hc4)]; exact ⟨rfl, (S.sel [] rfl rfl)⟩
        · skip
          refine wp_skip ?_
          refine hK14 _ _ ?_
          replace H := H.keep [6, 14] rfl
          refine seq_list (fun K17 hK17 => ?_)
          refine list_does H rfl (does_load one_24 rfl (by first | exact boxM.rd S (i := 0) rfl rfl | exact boxM.rd S (i := 1) rfl rfl | exact boxM.rd S (i := 2) rfl rfl | exact boxM.rd S (i := 3) rfl rfl | exact boxM.rd S (i := 4) rfl rfl | exact boxM.rd S (i := 5) rfl rfl | exact boxM.rd S (i := 6) rfl rfl)) ?_; clear H a; intro a H
          refine list_does H rfl (does_move rfl) ?_; clear H a; intro a H
          refine list_call H rfl rfl Try.func78 rfl rfl (chain_spare l A cp 83 _ [.pointer (some ⟨b5, 0, none⟩), .pointer (some ⟨b6, 0, none⟩), .pointer (some ⟨b7, 0, none⟩), .pointer (some ⟨b8, 0, none⟩), .pointer (some ⟨b9, 0, none⟩)] (sufP (⟨links, pitch, limit⟩ : Chain) l x1 x2 most false) _ (hl.now S) hlen Try.func83 rfl rfl (fun p f fn caps w1 K h1 h2 h3 h4 => chain_Why_1 links pitch limit l A cp p f fn caps b5 b6 b7 b8 b9 x1 x2 most w1 (fun j v hv => K.st.cell (boxAgg S (i := 6) rfl j v hv)) (K.st.cell (boxM.rd S (i := 5) rfl rfl)) (K.st.cell (boxM.rd S (i := 4) rfl rfl)) (K.st.cell (boxM.rd S (i := 3) rfl rfl)) (K.st.cell (boxM.rd S (i := 2) rfl rfl)) hx1 hx2 hk ((hl.now S).now K.st) h1 h2 h3 h4)) ?_; clear H a
          rintro _ _ a ⟨A', c', rfl, S2⟩ H
          replace S := S.call S2; clear S2
          refine list_does H rfl (does_assign rfl) ?_; clear H a; intro a H
          refine list_does H rfl (does_assign rfl) ?_; clear H a; intro a H
          refine hK17 _ _ ?_
          clear hK17 K17
          refine wp_ret ?_
          refine ret2 (fn := Try.f53) rfl H rfl rfl ?_
          show ListR _ _ _ _; unfold whyO; rw [if_neg (by omega), hkr.2, if_pos rfl, if_pos (by simpa using hc4)]; exact ⟨A', c', rfl, (S.sel [0] rfl rfl)⟩

end Go.Proofs.Ytlejjfhgfajoiaa
