/- ChNe. Printed by gen.py. -/
import Derived.Test.YtlejjfhgfajoiaaChWz
import Derived.Test.YtlejjfhgfajoiaaNeed
import Derived.Test.YtlejjfhgfajoiaaChBs
namespace Go.Proofs.Ytlejjfhgfajoiaa
open Go.RowKit
set_option linter.unusedVariables false
set_option linter.unusedSimpArgs false


theorem spK_in {suf : (Nat → Bool) → Bool} {n k : Nat} (hk : k < (spK suf n).length) : (spK suf n).getD k 0 < n := by
  rw [List.getD_eq_getElem?_getD, List.getElem?_eq_getElem hk]
  exact spK_lt n _ (List.getElem_mem hk)
theorem spK_asc {suf : (Nat → Bool) → Bool} {n k : Nat} (hk : k + 1 < (spK suf n).length) : (spK suf n).getD k 0 < (spK suf n).getD (k + 1) 0 := by
  rw [List.getD_eq_getElem?_getD, List.getD_eq_getElem?_getD, List.getElem?_eq_getElem hk, List.getElem?_eq_getElem (by omega)]
  exact List.pairwise_iff_getElem.1 (spK_up n) k (k + 1) (by omega) hk (by omega)
def errOf (o : Except Int IM) : Int := match o with
  | .error e => e
  | .ok _ => 0
theorem chain_LinksE (links pitch limit : Int) (l : List Gauge) (A : Option Addr) (cp : Nat) (w : World) (hl : InS w noF 4 A l.length (gcell l)) (hn : l.length ≤ 9223372036854775807) :
    Calls Try.prog 25 [.agg [.int .i64 links, .int .i64 pitch, .int .i64 limit].toArray, .slice A l.length cp].toArray w (Ret fun v w' => ∃ A' n' c' f, v = .tuple #[.slice A' n' c', .int .i64 (errOf (wholeO ⟨links, pitch, limit⟩ l true))] ∧ St w noF [ownM 42 2 A' n' c' f] w') :=
  ret_imp (chain_Links links pitch limit l A cp w hl hn) fun v w' h => by
    cases ho : wholeO ⟨links, pitch, limit⟩ l true with
    | error e => rw [ho] at h; obtain ⟨rfl, S⟩ := h; exact ⟨none, 0, 0, fun _ _ => undef, rfl, S.newNil 42 2 _⟩
    | ok M => rw [ho] at h; obtain ⟨A', c', rfl, S⟩ := h; exact ⟨A', _, c', _, rfl, S⟩
theorem check_pk {c : Chain} {l : List Gauge} {ks : List Nat} {but : Int} (h : checkE c l = 0) (hin : ∀ k, k < ks.length → ks.getD k 0 < l.length) (hlen : ks.length ≤ l.length) : checkE c (pkL l ks but) = 0 := by
  obtain ⟨h1, h2, h3⟩ := checkE_ok h
  unfold checkE
  rw [if_pos h1, if_pos (by have := pk_len (l := l) (ks := ks) (but := but); omega), if_pos]
  rw [List.all_eq_true]
  intro g hg
  rw [← pkTo_all] at hg
  unfold pkTo at hg
  obtain ⟨k, hk, rfl⟩ := List.mem_map.1 hg
  have hk2 := hin k (List.mem_range.1 (List.mem_filter.1 hk).1)
  unfold gat
  rw [List.getD_eq_getElem?_getD, List.getElem?_eq_getElem hk2]
  exact List.all_eq_true.1 h3 _ (List.getElem_mem _)
/-- The gauges that are left make the claim hold, and without any one of them it does not. -/
theorem pk_suf {c : Chain} {l : List Gauge} {fr to : Nat} {most : Int} {apart : Bool} (hk : checkE c l = 0) (hfr : fr < c.n) (hto : to < c.n) (h : sufP c l fr to most apart yes = true) {but : Int} (hb : but < (spK (sufP c l fr to most apart) l.length).length) :
    sufM (weaveW c (pkL l (spK (sufP c l fr to most apart) l.length) but) yes) fr to most apart = decide (but < 0) := by
  obtain ⟨h1, _, h3⟩ := checkE_ok hk
  have hm : ∀ p q : Nat → Bool, (∀ j, j < l.length → p j = true → q j = true) → sufP c l fr to most apart p = true → sufP c l fr to most apart q = true := fun p q => suf_mono h1 h3 hfr hto
  rw [pk_sub hb]
  split
  · rename_i h0
    rw [← weave_sub, decide_eq_true h0]
    exact spK_all hm h
  · rename_i h0
    rw [← weave_sub, decide_eq_false h0]
    refine spK_but hm ?_
    rw [List.getD_eq_getElem?_getD, List.getElem?_eq_getElem (by omega)]
    exact List.getElem_mem _
theorem why_cases {c : Chain} {l : List Gauge} {a b most : Int} (h : checkE c l = 0) : (whyO c l a b most = .error 1 ∨ whyO c l a b most = .error 3) ∨ (isRunB c a b = true ∧ sufP c l a.toNat b.toNat most false yes = true ∧ whyO c l a b most = .ok (spK (sufP c l a.toNat b.toNat most false) l.length)) := by
  unfold whyO
  rw [if_neg (by omega)]
  split
  · split
    · exact .inr ⟨by assumption, by assumption, rfl⟩
    · exact .inl (.inr rfl)
  · exact .inl (.inl rfl)
theorem run_suf {c : Chain} {l : List Gauge} {a b most : Int} (h : checkE c l = 0) (hr : isRunB c a b = true) : (decide ((runO c l a b).2.2 = 3) || (decide ((runO c l a b).2.2 = 0) && decide ((runO c l a b).2.1 ≤ most))) = sufM (weaveW c l yes) a.toNat b.toNat most false := by
  unfold runO wholeO
  rw [if_neg (by omega), hr, if_pos rfl]
  cases weaveW c l yes with
  | none => rfl
  | some M => rfl
theorem err_suf {c : Chain} {l : List Gauge} (h : checkE c l = 0) : errOf (wholeO c l true) = if sufM (weaveW c l yes) 0 0 0 true = true then 3 else 0 := by
  unfold wholeO
  rw [if_neg (by omega), if_pos rfl]
  cases weaveW c l yes <;> rfl


set_option maxRecDepth 100000 in
set_option maxHeartbeats 1000000 in
theorem law_picked (l : List Gauge) (A : Option Addr) (cp : Nat) (ks : List Nat) (LA : Option Addr) (lac : Nat) (but : Int) (w : World) (hl : InS w noF 4 A l.length (gcell l)) (hL : InS w noF 1 LA ks.length (ncl ks)) (hin : ∀ k, k < ks.length → ks.getD k 0 < l.length) (hup : ∀ k, k + 1 < ks.length → ks.getD k 0 < ks.getD (k + 1) 0) (hlen : l.length ≤ 1000) (hll : ks.length ≤ 1000) :
    Calls Try.prog 58 [.slice A l.length cp, .slice LA ks.length lac, .int .i64 but].toArray w (Ret (fun v w' => ∃ A' c', v = .tuple #[.slice A' (pkL l ks but).length c', .bool true] ∧ St w noF [ownM 48 4 A' (pkL l ks but).length c' (gcell (pkL l ks but))] w')) := by
  have hmx : maxLen = 9223372036854775807 := rfl
  refine enter Try.func58 rfl Try.ntmps58 rfl (fun a H => ?_)
  have S := St.start w
  refine seq_still (fun K1 hK1 => ?_)
  refine still_does H rfl (does_assign rfl) ?_; clear H a; intro a H
  refine still_does H rfl (does_assign rfl) ?_; clear H a; intro a H
  refine wpStill_nil (hK1 _ ?_)
  clear hK1 K1
  replace H := H.keep [0, 1, 2] rfl
  refine seq_still (fun K2 hK2 => ?_)
  refine still_does H rfl (does_assign rfl) ?_; clear H a; intro a H
  refine wpStill_nil (hK2 _ ?_)
  clear hK2 K2
  refine wp_seq_k (fun K3 hK3 => ?_)
  replace H := H.keep [0, 1, 2, 8] rfl
  refine seq_still (fun K4 hK4 => ?_)
  refine still_does H rfl (does_assign rfl) ?_; clear H a; intro a H
  refine wpStill_nil (hK4 _ ?_)
  clear hK4 K4
  refine wp_block ?_
  replace S := S.newNil 48 4 (gcell (pkTo l ks but 0))
  refine loop_st (X := Nat × Option Addr × Nat × Nat) (R0 := _) [0, 1, 2] H rfl (fun ⟨k, A', n', c'⟩ => [(8, .slice A' n' c'), (9, .int .i64 (k : Int))]) (fun ⟨k, A', n', c'⟩ => [ownM 48 4 A' n' c' (gcell (pkTo l ks but k))]) (fun g ⟨k, A', n', c'⟩ => k ≤ ks.length ∧ g + k = ks.length ∧ n' = (pkTo l ks but k).length) (ks.length) (0, none, 0, 0) ?_ (S.sel [0] rfl rfl) (H.keep [8, 9, 0, 1, 2] rfl) ?_
  · exact ⟨by omega, by omega, rfl⟩
  · intro g1 x1 a w1 hp S H K5 hK5
    obtain ⟨k, A', n', c'⟩ := x1
    dsimp only at hp S H
    have hn' := hp.2.2
    subst hn'
    refine wp_seq_k (fun K6 hK6 => ?_)
    replace H := H.keep [0, 1, 2, 8, 9] rfl
    refine seq_still (fun K7 hK7 => ?_)
    refine still_does H rfl (does_move rfl) ?_; clear H a; intro a H
    refine still_does H rfl (does_move rfl) ?_; clear H a; intro a H
    refine still_does H rfl (does_len sl_29 rfl) ?_; clear H a; intro a H
    refine still_does H rfl (does_lss rfl rfl) ?_; clear H a; intro a H
    refine wpStill_nil (hK7 _ ?_)
    clear hK7 K7
    refine cond_ H rfl (fun hc1 => ?_) (fun hc1 => ?_)
    · try simp only [Bool.or_eq_true, Bool.and_eq_true, Bool.not_eq_true', Bool.or_eq_false_iff, Bool.and_eq_false_iff, Bool.not_eq_false', decide_eq_true_eq, decide_eq_false_iff_not, Int.not_lt, Int.not_le] at hc1
      refine wp_skip ?_
      refine hK6 _ _ ?_
      refine wp_seq_k (fun K8 hK8 => ?_)
      refine wp_block ?_
      refine wp_seq_k (fun K9 hK9 => ?_)
      have hk6 := hin k (by omega)
      have h8 : 0 < k → ks.getD (((k : Int) - 1).toNat) 0 < ks.getD k 0 := fun h => by
        have := hup (k - 1) (by omega)
        rw [show ((k : Int) - 1).toNat = k - 1 by omega]; rwa [show k - 1 + 1 = k by omega] at this
      have hwl : (pkTo l ks but k).length ≤ k := by unfold pkTo; rw [List.length_map]; exact Nat.le_trans (List.length_filter_le _ _) (by simp)
      replace H := H.keep [0, 1, 2, 8, 9] rfl
      refine seq_stillD (by kernel_rfl) (by kernel_rfl) (fun K10 hK10 => ?_)
      replace S := S.drew
      refine still_does H rfl (does_move rfl) ?_; clear H a; intro a H
      refine still_does H rfl (does_move rfl) ?_; clear H a; intro a H
      refine still_does H rfl (by first | exact does_indexN sl_29 sz_3 rfl rfl (by first | exact hL.adr (by omega) | exact hl.adr (by omega)) (by first | omega | omega) | exact does_index sl_29 sz_3 rfl rfl (by first | exact hL.adr (by omega) | exact hl.adr (by omega)) (by omega) (by first | omega | omega)) ?_; clear H a; intro a H
      refine still_does H rfl (does_load one_3 rfl (by first | exact hL.rd S (by omega) (by omega) | exact boxM.rd S (i := 0) rfl rfl)) ?_; clear H a; intro a H
      refine still_does H rfl (does_lss rfl rfl) ?_; clear H a; intro a H
      refine still_does H rfl (does_move rfl) ?_; clear H a; intro a H
      apply still_guard (i := 5) (g := 21) (t := 28) (b := false) 7 H rfl rfl (by kernel_rfl) (by kernel_rfl) rfl rfl
      case h1 =>
        intro hg6
        have hq6 := hg6; try simp only [Bool.or_eq_true, Bool.and_eq_true, Bool.not_eq_true', Bool.or_eq_false_iff, Bool.and_eq_false_iff, Bool.not_eq_false', decide_eq_true_eq, decide_eq_false_iff_not, Int.not_lt, Int.not_le] at hq6
        refine still_yes' H rfl rfl (by assumption) ?_
        refine still_does H rfl (does_move rfl) ?_; intro a H
        refine still_yes' H rfl rfl (by assumption) ?_
        refine still_does H rfl (does_move rfl) ?_; intro a H
        refine still_yes' H rfl rfl (by assumption) ?_
        refine still_does H rfl (by first | exact does_indexN sl_29 sz_3 rfl rfl (by first | exact hL.adr (by omega) | exact hl.adr (by omega)) (by first | omega | omega) | exact does_index sl_29 sz_3 rfl rfl (by first | exact hL.adr (by omega) | exact hl.adr (by omega)) (by omega) (by first | omega | omega)) ?_; intro a H
        refine still_yes' H rfl rfl (by assumption) ?_
        refine still_does H rfl (does_load one_3 rfl (by first | exact hL.rd S (by omega) (by omega) | exact boxM.rd S (i := 0) rfl rfl)) ?_; intro a H
        refine still_yes' H rfl rfl (by assumption) ?_
        refine still_does H rfl (does_move rfl) ?_; intro a H
        refine still_yes' H rfl rfl (by assumption) ?_
        refine still_does H rfl (does_len sl_24 rfl) ?_; intro a H
        refine still_yes' H rfl rfl (by assumption) ?_
        refine still_does H rfl (does_geq rfl rfl) ?_; intro a H
        exact wpStill_nil (H.strip 7 rfl rfl)
      case k =>
        clear H a; intro a H
        refine still_does H rfl (by first | exact does_or rfl rfl rfl | exact does_pick rfl rfl rfl) ?_; clear H a; intro a H
        refine still_does H rfl (does_move rfl) ?_; clear H a; intro a H
        apply still_guard (i := 14) (g := 30) (t := 44) (b := false) 14 H rfl rfl (by kernel_rfl) (by kernel_rfl) rfl rfl
        case h1 =>
          intro hg15
          have hq15 := hg15; try simp only [Bool.or_eq_true, Bool.and_eq_true, Bool.not_eq_true', Bool.or_eq_false_iff, Bool.and_eq_false_iff, Bool.not_eq_false', decide_eq_true_eq, decide_eq_false_iff_not, Int.not_lt, Int.not_le] at hq15
          refine still_yes' H rfl rfl (by assumption) ?_
          refine still_does H rfl (does_move rfl) ?_; intro a H
          refine still_yes' H rfl rfl (by assumption) ?_
          refine still_does H rfl (does_gtr rfl rfl) ?_; intro a H
          refine still_yes' H rfl rfl (by assumption) ?_
          refine still_does H rfl (does_move rfl) ?_; intro a H
          apply still_guard (i := 17) (g := 33) (t := 43) (b := true) 10 H rfl rfl (by kernel_rfl) (by kernel_rfl) rfl rfl
          case h1 =>
            intro hg18
            have hq18 := hg18; try simp only [Bool.or_eq_true, Bool.and_eq_true, Bool.not_eq_true', Bool.or_eq_false_iff, Bool.and_eq_false_iff, Bool.not_eq_false', decide_eq_true_eq, decide_eq_false_iff_not, Int.not_lt, Int.not_le] at hq18
            refine still_yes' H rfl rfl (by assumption) ?_
            refine still_does H rfl (does_move rfl) ?_; intro a H
            refine still_yes' H rfl rfl (by assumption) ?_
            refine still_does H rfl (does_move rfl) ?_; intro a H
            refine still_yes' H rfl rfl (by assumption) ?_
            refine still_does H rfl (by first | exact does_indexN sl_29 sz_3 rfl rfl (by first | exact hL.adr (by omega) | exact hl.adr (by omega)) (by first | omega | omega) | exact does_index sl_29 sz_3 rfl rfl (by first | exact hL.adr (by omega) | exact hl.adr (by omega)) (by omega) (by first | omega | omega)) ?_; intro a H
            refine still_yes' H rfl rfl (by assumption) ?_
            refine still_does H rfl (does_load one_3 rfl (by first | exact hL.rd S (by omega) (by omega) | exact boxM.rd S (i := 0) rfl rfl)) ?_; intro a H
            refine still_yes' H rfl rfl (by assumption) ?_
            refine still_does H rfl (does_move rfl) ?_; intro a H
            refine still_yes' H rfl rfl (by assumption) ?_
            refine still_does H rfl (does_move rfl) ?_; intro a H
            refine still_yes' H rfl rfl (by assumption) ?_
            refine still_does H rfl (does_sub rfl rfl (by unfold i64ok; omega)) ?_; intro a H
            refine still_yes' H rfl rfl (by assumption) ?_
            refine still_does H rfl (by first | exact does_indexN sl_29 sz_3 rfl rfl (by first | exact hL.adr (by omega) | exact hl.adr (by omega)) (by first | omega | omega) | exact does_index sl_29 sz_3 rfl rfl (by first | exact hL.adr (by omega) | exact hl.adr (by omega)) (by omega) (by first | omega | omega)) ?_; intro a H
            refine still_yes' H rfl rfl (by assumption) ?_
            refine still_does H rfl (does_load one_3 rfl (by first | exact hL.rd S (by omega) (by omega) | exact boxM.rd S (i := 0) rfl rfl)) ?_; intro a H
            refine still_yes' H rfl rfl (by assumption) ?_
            refine still_does H rfl (does_leq rfl rfl) ?_; intro a H
            exact wpStill_nil (H.strip 10 rfl rfl)
          case k =>
            intro a H
            refine still_yes' H rfl rfl (by assumption) ?_
            refine still_does H rfl (by first | exact does_and rfl rfl rfl | exact does_pick rfl rfl rfl) ?_; intro a H
            exact wpStill_nil (H.strip 5 rfl rfl)
        case k =>
          clear H a; intro a H
          refine still_does H rfl (by first | exact does_or rfl rfl rfl | exact does_pick rfl rfl rfl) ?_; clear H a; intro a H
          refine wpStill_nil (hK10 _ ?_)
          clear hK10 K10
          refine cond_ H rfl (fun hc2 => ?_) (fun hc2 => ?_)
          · try simp only [Bool.or_eq_true, Bool.and_eq_true, Bool.not_eq_true', Bool.or_eq_false_iff, Bool.and_eq_false_iff, Bool.not_eq_false', decide_eq_true_eq, decide_eq_false_iff_not, Int.not_lt, Int.not_le] at hc2
            exfalso; omega
          · try simp only [Bool.or_eq_true, Bool.and_eq_true, Bool.not_eq_true', Bool.or_eq_false_iff, Bool.and_eq_false_iff, Bool.not_eq_false', decide_eq_true_eq, decide_eq_false_iff_not, Int.not_lt, Int.not_le] at hc2
            refine wp_skip ?_
            refine hK9 _ _ ?_
            replace H := H.keep [0, 1, 2, 8, 9] rfl
            refine seq_still (fun K11 hK11 => ?_)
            refine still_does H rfl (does_move rfl) ?_; clear H a; intro a H
            refine still_does H rfl (does_move rfl) ?_; clear H a; intro a H
            refine still_does H rfl (does_neq rfl rfl) ?_; clear H a; intro a H
            refine wpStill_nil (hK11 _ ?_)
            clear hK11 K11
            refine cond_ H rfl (fun hc3 => ?_) (fun hc3 => ?_)
            · try simp only [Bool.or_eq_true, Bool.and_eq_true, Bool.not_eq_true', Bool.or_eq_false_iff, Bool.and_eq_false_iff, Bool.not_eq_false', decide_eq_true_eq, decide_eq_false_iff_not, Int.not_lt, Int.not_le] at hc3
              replace H := H.keep [0, 1, 2, 8, 9] rfl
              refine one_list ?_
              refine list_does H rfl (does_move rfl) ?_; clear H a; intro a H
              refine list_does H rfl (does_move rfl) ?_; clear H a; intro a H
              refine list_does H rfl (does_move rfl) ?_; clear H a; intro a H
              refine list_does H rfl (does_move rfl) ?_; clear H a; intro a H
              refine list_does H rfl (does_indexN sl_29 sz_3 rfl rfl (by exact hL.adr (by omega)) (by omega)) ?_; clear H a; intro a H
              refine list_does H rfl (does_load one_3 rfl (by first | exact hL.rd S (by omega) (by omega) | exact boxM.rd S (i := 0) rfl rfl)) ?_; clear H a; intro a H
              refine list_does H rfl (by first | exact does_indexN sl_24 sz_48 rfl rfl (by first | exact hL.adr (by omega) | exact hl.adr (by omega)) (by first | omega | omega) | exact does_index sl_24 sz_48 rfl rfl (by first | exact hL.adr (by omega) | exact hl.adr (by omega)) (by omega) (by first | omega | omega)) ?_; clear H a; intro a H
              refine list_does H rfl (by first | exact does_loadIn agg_48 sz_48 rfl S hl (by omega) (by omega) | exact does_loadBox agg_48 sz_48 rfl S (i := 0) rfl rfl) ?_; clear H a; intro a H
              refine list_build' H rfl S sl_24 sz_48 ze_48 rfl rfl rfl rfl rfl rfl rfl rfl rfl ?_; clear H a S; intro A1 _ a hA1 S H
              refine list_append H rfl S sl_24 sz_48 ze_48 by_48 rfl rfl (i := 1) rfl rfl rfl (ownM.inS S (i := 0) rfl) (one_vs (four rfl rfl rfl rfl)) (by omega) (by omega) ?_; clear H a S; intro A2 c2 _ a S H
              replace S := S.recell (i := 1) rfl (gcell_app (g := gat l (ks.getD k 0)) (four rfl rfl rfl rfl))
              have e8 : (pkTo l ks but k).length + 1 = (pkTo l ks but k ++ [gat l (ks.getD k 0)]).length := by simp
              rw [e8] at S H
              refine list_does H rfl (does_assign rfl) ?_; clear H a; intro a H
              refine hK8 _ _ ?_
              replace H := H.keep [0, 1, 2, 8, 9] rfl
              refine one_still ?_
              refine still_does H rfl (does_move rfl) ?_; clear H a; intro a H
              refine still_does H rfl (does_add rfl rfl (by unfold i64ok; omega)) ?_; clear H a; intro a H
              refine still_does H rfl (does_assign rfl) ?_; clear H a; intro a H
              refine wpStill_nil ?_
              have hnx := pkTo_succ l ks but k
              first | rw [if_neg (by omega)] at hnx | rw [if_pos (by omega), List.append_nil] at hnx
              rw [← hnx] at S H
              exact hK5 (g1 - 1) (k + 1, _, (pkTo l ks but (k + 1)).length, _) a _ (by omega) (⟨by omega, by omega, rfl⟩) (S.sel [1] rfl rfl) (H.keep [8, 9, 0, 1, 2] rfl)
            · try simp only [Bool.or_eq_true, Bool.and_eq_true, Bool.not_eq_true', Bool.or_eq_false_iff, Bool.and_eq_false_iff, Bool.not_eq_false', decide_eq_true_eq, decide_eq_false_iff_not, Int.not_lt, Int.not_le] at hc3
              refine wp_skip ?_
              refine hK8 _ _ ?_
              replace H := H.keep [0, 1, 2, 8, 9] rfl
              refine one_still ?_
              refine still_does H rfl (does_move rfl) ?_; clear H a; intro a H
              refine still_does H rfl (does_add rfl rfl (by unfold i64ok; omega)) ?_; clear H a; intro a H
              refine still_does H rfl (does_assign rfl) ?_; clear H a; intro a H
              refine wpStill_nil ?_
              have hnx := pkTo_succ l ks but k
              first | rw [if_neg (by omega)] at hnx | rw [if_pos (by omega), List.append_nil] at hnx
              rw [← hnx] at S H
              exact hK5 (g1 - 1) (k + 1, _, (pkTo l ks but (k + 1)).length, _) a _ (by omega) (⟨by omega, by omega, rfl⟩) (S.sel [0] rfl rfl) (H.keep [8, 9, 0, 1, 2] rfl)
    · try simp only [Bool.or_eq_true, Bool.and_eq_true, Bool.not_eq_true', Bool.or_eq_false_iff, Bool.and_eq_false_iff, Bool.not_eq_false', decide_eq_true_eq, decide_eq_false_iff_not, Int.not_lt, Int.not_le] at hc1
      refine wp_exit ?_
      refine hK3 _ _ ?_
      replace H := H.keep [8] rfl
      refine seq_still (fun K15 hK15 => ?_)
      refine still_does H rfl (does_move rfl) ?_; clear H a; intro a H
      refine still_does H rfl (does_assign rfl) ?_; clear H a; intro a H
      refine still_does H rfl (does_assign rfl) ?_; clear H a; intro a H
      refine wpStill_nil (hK15 _ ?_)
      clear hK15 K15
      refine wp_ret ?_
      refine ret2 (fn := Try.f58) rfl H rfl rfl ?_
      have hk9 : k = ks.length := by omega
      subst hk9
      rw [pkTo_all] at S ⊢
      exact ⟨A', c', rfl, (S.sel [0] rfl rfl)⟩

set_option maxRecDepth 100000 in
set_option maxHeartbeats 1000000 in
theorem law_ChainNeeds (links pitch limit : Int) (l : List Gauge) (A : Option Addr) (cp : Nat) (sf st sl : Int) (w : World) (hl : InS w noF 4 A l.length (gcell l)) (hn : l.length ≤ 9223372036854775807) :
    Calls Try.prog 16 [.agg [.int .i64 links, .int .i64 pitch, .int .i64 limit].toArray, .slice A l.length cp, .agg [.int .i64 sf, .int .i64 st, .int .i64 sl].toArray].toArray w (Ret (fun v w' => v = .bool true ∧ St w noF [] w')) := by
  refine enter Try.func16 rfl Try.ntmps16 rfl (fun a H => ?_)
  have S := St.start w
  refine seq_list (fun K1 hK1 => ?_)
  refine list_box H rfl S rfl rfl ?_; clear H a S; intro b3 _ a hb3 hbw3 S H
  refine list_box H rfl S rfl rfl ?_; clear H a S; intro b5 _ a hb5 hbw5 S H
  refine list_does H rfl (does_assign rfl) ?_; clear H a; intro a H
  refine hK1 _ _ ?_
  clear hK1 K1
  refine wp_seq_k (fun K2 hK2 => ?_)
  replace H := H.keep [1, 3, 5] rfl
  refine seq_list (fun K3 hK3 => ?_)
  refine list_does H rfl (does_move rfl) ?_; clear H a; intro a H
  refine list_call H rfl rfl Try.func17 rfl rfl (law_Far A l.length cp _) ?_; clear H a
  rintro _ _ a ⟨rfl, rfl⟩ H
  refine list_does H rfl (does_move rfl) ?_; clear H a; intro a H
  apply list_guard (i := 2) (g := 24) (t := 28) (b := false) 4 H S rfl rfl (by kernel_rfl) (by kernel_rfl) rfl rfl
  case h1 =>
    intro hg3
    refine list_yes' H rfl rfl (by assumption) ?_
    refine list_does H rfl (by first | exact does_loadBox agg_23 sz_23 rfl S (i := 0) rfl rfl | exact does_loadBox agg_23 sz_23 rfl S (i := 1) rfl rfl) ?_; intro a H
    refine list_yes' H rfl rfl (by assumption) ?_
    refine list_does H rfl (does_move rfl) ?_; intro a H
    refine list_yes' H rfl rfl (by assumption) ?_
    refine list_call H rfl rfl Try.func24 rfl rfl (ref_Check links pitch limit l A cp _ (hl.now S) hn) ?_; clear H a
    rintro _ _ a ⟨rfl, S2⟩ H
    replace S := S.call S2; clear S2
    refine list_yes' H rfl rfl (by assumption) ?_
    refine list_does H rfl (does_neq rfl rfl) ?_; intro a H
    exact wpList_nil ⟨H.strip 4 rfl rfl, (S.sel [0, 1] rfl rfl)⟩
  case k =>
    clear H a S; intro a _ H S
    refine list_does H rfl (by first | exact does_or rfl rfl rfl | exact does_pick rfl rfl rfl) ?_; clear H a; intro a H
    refine list_does H rfl (does_move rfl) ?_; clear H a; intro a H
    refine list_still 3 ?_
    apply still_guard (i := 8) (g := 30) (t := 33) (b := false) 3 H rfl rfl (by kernel_rfl) (by kernel_rfl) rfl rfl
    case h1 =>
      intro hg9
      refine still_yes' H rfl rfl (by assumption) ?_
      refine still_does H rfl (by first | exact does_field_pt fo_23_0 rfl | exact does_field fo_23_0 rfl) ?_; intro a H
      refine still_yes' H rfl rfl (by assumption) ?_
      refine still_does H rfl (does_load one_3 rfl (by first | exact boxM.rd S (i := 0) rfl rfl | exact boxM.rd S (i := 1) rfl rfl)) ?_; intro a H
      refine still_yes' H rfl rfl (by assumption) ?_
      refine still_does H rfl (does_gtr rfl rfl) ?_; intro a H
      exact wpStill_nil (H.strip 3 rfl rfl)
    case k =>
      clear H a; intro a H
      refine wpStill_nil ?_
      refine list_does H rfl (by first | exact does_or rfl rfl rfl | exact does_pick rfl rfl rfl) ?_; clear H a; intro a H
      refine hK3 _ _ ?_
      clear hK3 K3
      refine cond_ H rfl (fun hc1 => ?_) (fun hc1 => ?_)
      · try simp only [Bool.or_eq_true, Bool.and_eq_true, Bool.not_eq_true', Bool.or_eq_false_iff, Bool.and_eq_false_iff, Bool.not_eq_false', decide_eq_true_eq, decide_eq_false_iff_not, Int.not_lt, Int.not_le] at hc1
        replace H := H.keep [] rfl
        refine seq_list (fun K4 hK4 => ?_)
        refine list_call H rfl rfl Try.func18 rfl rfl (law_works _) ?_; clear H a
        rintro _ _ a ⟨rfl, S2⟩ H
        replace S := S.call S2; clear S2
        refine list_does H rfl (does_assign rfl) ?_; clear H a; intro a H
        refine hK4 _ _ ?_
        clear hK4 K4
        refine wp_ret ?_
        refine ret1 (fn := Try.f16) rfl H rfl ?_
        exact ⟨rfl, (S.sel [] rfl rfl)⟩
      · try simp only [Bool.or_eq_true, Bool.and_eq_true, Bool.not_eq_true', Bool.or_eq_false_iff, Bool.and_eq_false_iff, Bool.not_eq_false', decide_eq_true_eq, decide_eq_false_iff_not, Int.not_lt, Int.not_le] at hc1
        refine wp_skip ?_
        refine hK2 _ _ ?_
        have hk : checkE (⟨links, pitch, limit⟩ : Chain) l = 0 := by omega
        have hck := checkE_ok hk; have hC := hck.1; unfold chainOk at hC; simp only [decide_eq_true_eq] at hC
        have hcc := con_cases hk
        rcases hs : sufM (weaveW (⟨links, pitch, limit⟩ : Chain) l yes) 0 0 0 true with _ | _
        · skip
          rw [hs, if_neg (by simp)] at hcc
          replace H := H.keep [1, 3, 5] rfl
          refine seq_list (fun K5 hK5 => ?_)
          refine list_does H rfl (by first | exact does_loadBox agg_23 sz_23 rfl S (i := 0) rfl rfl | exact does_loadBox agg_23 sz_23 rfl S (i := 1) rfl rfl) ?_; clear H a; intro a H
          refine list_does H rfl (does_move rfl) ?_; clear H a; intro a H
          refine list_call H rfl rfl Try.func51 rfl rfl (ret_imp (chain_Conflict links pitch limit l A cp _ (hl.now S) hn) (fun _ _ h => list_err hcc h)) ?_; clear H a
          rintro _ _ a ⟨rfl, S2⟩ H
          replace S := S.call S2; clear S2
          refine list_does H rfl (does_move rfl) ?_; clear H a; intro a H
          refine list_does H rfl (does_extract rfl rfl) ?_; clear H a; intro a H
          refine list_does H rfl (does_extract rfl rfl) ?_; clear H a; intro a H
          refine list_does H rfl (does_assign rfl) ?_; clear H a; intro a H
          refine list_does H rfl (does_assign rfl) ?_; clear H a; intro a H
          refine hK5 _ _ ?_
          clear hK5 K5
          replace H := H.keep [1, 3, 5, 7, 8] rfl
          refine seq_list (fun K6 hK6 => ?_)
          refine list_does H rfl (by first | exact does_loadBox agg_23 sz_23 rfl S (i := 0) rfl rfl | exact does_loadBox agg_23 sz_23 rfl S (i := 1) rfl rfl) ?_; clear H a; intro a H
          refine list_does H rfl (does_move rfl) ?_; clear H a; intro a H
          refine list_call H rfl rfl Try.func25 rfl rfl (chain_LinksE links pitch limit l A cp _ (hl.now S) hn) ?_; clear H a
          rintro _ _ a ⟨A4, n4, c4, f4, rfl, S2⟩ H
          replace S := S.call S2; clear S2
          rw [err_suf hk, hs] at H
          refine list_does H rfl (does_move rfl) ?_; clear H a; intro a H
          refine list_does H rfl (does_extract rfl rfl) ?_; clear H a; intro a H
          refine list_does H rfl (does_extract rfl rfl) ?_; clear H a; intro a H
          refine list_does H rfl (does_assign rfl) ?_; clear H a; intro a H
          refine list_does H rfl (does_assign rfl) ?_; clear H a; intro a H
          refine hK6 _ _ ?_
          clear hK6 K6
          refine wp_seq_k (fun K7 hK7 => ?_)
          replace H := H.keep [1, 3, 5, 7, 8, 10] rfl
          refine seq_still (fun K8 hK8 => ?_)
          refine still_does H rfl (does_move rfl) ?_; clear H a; intro a H
          refine still_does H rfl (does_eql rfl rfl) ?_; clear H a; intro a H
          refine still_does H rfl (does_move rfl) ?_; clear H a; intro a H
          refine still_does H rfl (does_eql rfl rfl) ?_; clear H a; intro a H
          refine still_does H rfl (does_neqb Try.underlying4 rfl rfl) ?_; clear H a; intro a H
          refine still_does H rfl (does_move rfl) ?_; clear H a; intro a H
          apply still_guard (i := 5) (g := 53) (t := 59) (b := false) 6 H rfl rfl (by kernel_rfl) (by kernel_rfl) rfl rfl
          case h1 =>
            intro hg6
            refine still_yes' H rfl rfl (by assumption) ?_
            refine still_does H rfl (does_move rfl) ?_; intro a H
            refine still_yes' H rfl rfl (by assumption) ?_
            refine still_does H rfl (does_neq rfl rfl) ?_; intro a H
            refine still_yes' H rfl rfl (by assumption) ?_
            refine still_does H rfl (does_move rfl) ?_; intro a H
            apply still_guard (i := 8) (g := 56) (t := 58) (b := true) 2 H rfl rfl (by kernel_rfl) (by kernel_rfl) rfl rfl
            case h1 =>
              intro hg9
              refine still_yes' H rfl rfl (by assumption) ?_
              refine still_does H rfl (does_move rfl) ?_; intro a H
              refine still_yes' H rfl rfl (by assumption) ?_
              refine still_does H rfl (does_neq rfl rfl) ?_; intro a H
              exact wpStill_nil (H.strip 2 rfl rfl)
            case k =>
              intro a H
              refine still_yes' H rfl rfl (by assumption) ?_
              refine still_does H rfl (by first | exact does_and rfl rfl rfl | exact does_pick rfl rfl rfl) ?_; intro a H
              exact wpStill_nil (H.strip 5 rfl rfl)
          case k =>
            clear H a; intro a H
            refine still_does H rfl (by first | exact does_or rfl rfl rfl | exact does_pick rfl rfl rfl) ?_; clear H a; intro a H
            refine wpStill_nil (hK8 _ ?_)
            clear hK8 K8
            refine cond_ H rfl (fun hc2 => ?_) (fun hc2 => ?_)
            · skip
              exact absurd hc2 (by decide)
            · skip
              refine wp_skip ?_
              refine hK7 _ _ ?_
              refine wp_seq_k (fun K9 hK9 => ?_)
              replace H := H.keep [1, 3, 5, 7, 8] rfl
              refine seq_still (fun K10 hK10 => ?_)
              refine still_does H rfl (does_move rfl) ?_; clear H a; intro a H
              refine still_does H rfl (does_eql rfl rfl) ?_; clear H a; intro a H
              refine wpStill_nil (hK10 _ ?_)
              clear hK10 K10
              refine cond_ H rfl (fun hc3 => ?_) (fun hc3 => ?_)
              · skip
                exact absurd hc3 (by decide)
              · skip
                refine wp_skip ?_
                refine hK9 _ _ ?_
                rcases why_cases (a := sf) (b := st) (most := sl) hk with (hY | hY) | ⟨hY0, hY1, hY⟩
                · skip
                  skip
                  replace H := H.keep [1, 3, 5] rfl
                  refine seq_list (fun K11 hK11 => ?_)
                  refine list_does H rfl (by first | exact does_loadBox agg_23 sz_23 rfl S (i := 0) rfl rfl | exact does_loadBox agg_23 sz_23 rfl S (i := 1) rfl rfl | exact does_loadBox agg_23 sz_23 rfl S (i := 2) rfl rfl) ?_; clear H a; intro a H
                  refine list_does H rfl (does_move rfl) ?_; clear H a; intro a H
                  refine list_does H rfl (by first | exact does_field_pt fo_26_0 rfl | exact does_field fo_26_0 rfl) ?_; clear H a; intro a H
                  refine list_does H rfl (does_load one_3 rfl (by first | exact boxM.rd S (i := 0) rfl rfl | exact boxM.rd S (i := 1) rfl rfl | exact boxM.rd S (i := 2) rfl rfl)) ?_; clear H a; intro a H
                  refine list_does H rfl (by first | exact does_field_pt fo_26_1 rfl | exact does_field fo_26_1 rfl) ?_; clear H a; intro a H
                  refine list_does H rfl (does_load one_3 rfl (by first | exact boxM.rd S (i := 0) rfl rfl | exact boxM.rd S (i := 1) rfl rfl | exact boxM.rd S (i := 2) rfl rfl)) ?_; clear H a; intro a H
                  refine list_does H rfl (by first | exact does_field_pt fo_26_2 rfl | exact does_field fo_26_2 rfl) ?_; clear H a; intro a H
                  refine list_does H rfl (does_load one_3 rfl (by first | exact boxM.rd S (i := 0) rfl rfl | exact boxM.rd S (i := 1) rfl rfl | exact boxM.rd S (i := 2) rfl rfl)) ?_; clear H a; intro a H
                  refine list_call H rfl rfl Try.func53 rfl rfl (ret_imp (chain_Why links pitch limit l A cp sf st sl _ (hl.now S) hn) (fun _ _ h => list_err hY h)) ?_; clear H a
                  rintro _ _ a ⟨rfl, S2⟩ H
                  replace S := S.call S2; clear S2
                  refine list_does H rfl (does_move rfl) ?_; clear H a; intro a H
                  refine list_does H rfl (does_extract rfl rfl) ?_; clear H a; intro a H
                  refine list_does H rfl (does_extract rfl rfl) ?_; clear H a; intro a H
                  refine list_does H rfl (does_assign rfl) ?_; clear H a; intro a H
                  refine list_does H rfl (does_assign rfl) ?_; clear H a; intro a H
                  refine hK11 _ _ ?_
                  clear hK11 K11
                  refine wp_seq_k (fun K12 hK12 => ?_)
                  replace H := H.keep [1, 3, 5, 8, 16] rfl
                  refine seq_still (fun K13 hK13 => ?_)
                  refine still_does H rfl (does_move rfl) ?_; clear H a; intro a H
                  refine still_does H rfl (does_neq rfl rfl) ?_; clear H a; intro a H
                  refine wpStill_nil (hK13 _ ?_)
                  clear hK13 K13
                  refine cond_ H rfl (fun hc4 => ?_) (fun hc4 => ?_)
                  · skip
                    replace H := H.keep [8] rfl
                    refine seq_list (fun K14 hK14 => ?_)
                    refine list_does H rfl (does_move rfl) ?_; clear H a; intro a H
                    refine list_does H rfl (does_eql rfl rfl) ?_; clear H a; intro a H
                    refine list_does H rfl (does_move rfl) ?_; clear H a; intro a H
                    refine list_still 2 ?_
                    apply still_guard (i := 2) (g := 107) (t := 109) (b := false) 2 H rfl rfl (by kernel_rfl) (by kernel_rfl) rfl rfl
                    case h1 =>
                      intro hg3
                      refine still_yes' H rfl rfl (by assumption) ?_
                      refine still_does H rfl (does_move rfl) ?_; intro a H
                      refine still_yes' H rfl rfl (by assumption) ?_
                      refine still_does H rfl (does_eql rfl rfl) ?_; intro a H
                      exact wpStill_nil (H.strip 2 rfl rfl)
                    case k =>
                      clear H a; intro a H
                      refine wpStill_nil ?_
                      refine list_does H rfl (Does.to (does_or rfl rfl rfl) (show Value.bool _ = Value.bool true from rfl)) ?_; clear H a; intro a H
                      refine list_does H rfl (does_move rfl) ?_; clear H a; intro a H
                      refine list_yes H rfl rfl ?_
                      refine list_call H rfl rfl Try.func18 rfl rfl (law_works _) ?_; clear H a
                      rintro _ _ a ⟨rfl, S2⟩ H
                      replace S := S.call S2; clear S2
                      refine list_does H rfl (by first | exact does_and rfl rfl rfl | exact does_pick rfl rfl rfl) ?_; clear H a; intro a H
                      refine list_does H rfl (does_assign rfl) ?_; clear H a; intro a H
                      refine hK14 _ _ ?_
                      clear hK14 K14
                      refine wp_ret ?_
                      refine ret1 (fn := Try.f16) rfl H rfl ?_
                      exact ⟨rfl, (S.sel [] rfl rfl)⟩
                  · skip
                    exact absurd hc4 (by decide)
                · skip
                  skip
                  replace H := H.keep [1, 3, 5] rfl
                  refine seq_list (fun K15 hK15 => ?_)
                  refine list_does H rfl (by first | exact does_loadBox agg_23 sz_23 rfl S (i := 0) rfl rfl | exact does_loadBox agg_23 sz_23 rfl S (i := 1) rfl rfl | exact does_loadBox agg_23 sz_23 rfl S (i := 2) rfl rfl) ?_; clear H a; intro a H
                  refine list_does H rfl (does_move rfl) ?_; clear H a; intro a H
                  refine list_does H rfl (by first | exact does_field_pt fo_26_0 rfl | exact does_field fo_26_0 rfl) ?_; clear H a; intro a H
                  refine list_does H rfl (does_load one_3 rfl (by first | exact boxM.rd S (i := 0) rfl rfl | exact boxM.rd S (i := 1) rfl rfl | exact boxM.rd S (i := 2) rfl rfl)) ?_; clear H a; intro a H
                  refine list_does H rfl (by first | exact does_field_pt fo_26_1 rfl | exact does_field fo_26_1 rfl) ?_; clear H a; intro a H
                  refine list_does H rfl (does_load one_3 rfl (by first | exact boxM.rd S (i := 0) rfl rfl | exact boxM.rd S (i := 1) rfl rfl | exact boxM.rd S (i := 2) rfl rfl)) ?_; clear H a; intro a H
                  refine list_does H rfl (by first | exact does_field_pt fo_26_2 rfl | exact does_field fo_26_2 rfl) ?_; clear H a; intro a H
                  refine list_does H rfl (does_load one_3 rfl (by first | exact boxM.rd S (i := 0) rfl rfl | exact boxM.rd S (i := 1) rfl rfl | exact boxM.rd S (i := 2) rfl rfl)) ?_; clear H a; intro a H
                  refine list_call H rfl rfl Try.func53 rfl rfl (ret_imp (chain_Why links pitch limit l A cp sf st sl _ (hl.now S) hn) (fun _ _ h => list_err hY h)) ?_; clear H a
                  rintro _ _ a ⟨rfl, S2⟩ H
                  replace S := S.call S2; clear S2
                  refine list_does H rfl (does_move rfl) ?_; clear H a; intro a H
                  refine list_does H rfl (does_extract rfl rfl) ?_; clear H a; intro a H
                  refine list_does H rfl (does_extract rfl rfl) ?_; clear H a; intro a H
                  refine list_does H rfl (does_assign rfl) ?_; clear H a; intro a H
                  refine list_does H rfl (does_assign rfl) ?_; clear H a; intro a H
                  refine hK15 _ _ ?_
                  clear hK15 K15
                  refine wp_seq_k (fun K16 hK16 => ?_)
                  replace H := H.keep [1, 3, 5, 8, 16] rfl
                  refine seq_still (fun K17 hK17 => ?_)
                  refine still_does H rfl (does_move rfl) ?_; clear H a; intro a H
                  refine still_does H rfl (does_neq rfl rfl) ?_; clear H a; intro a H
                  refine wpStill_nil (hK17 _ ?_)
                  clear hK17 K17
                  refine cond_ H rfl (fun hc5 => ?_) (fun hc5 => ?_)
                  · skip
                    replace H := H.keep [8] rfl
                    refine seq_list (fun K18 hK18 => ?_)
                    refine list_does H rfl (does_move rfl) ?_; clear H a; intro a H
                    refine list_does H rfl (does_eql rfl rfl) ?_; clear H a; intro a H
                    refine list_does H rfl (does_move rfl) ?_; clear H a; intro a H
                    refine list_still 2 ?_
                    apply still_guard (i := 2) (g := 107) (t := 109) (b := false) 2 H rfl rfl (by kernel_rfl) (by kernel_rfl) rfl rfl
                    case h1 =>
                      intro hg3
                      refine still_yes' H rfl rfl (by assumption) ?_
                      refine still_does H rfl (does_move rfl) ?_; intro a H
                      refine still_yes' H rfl rfl (by assumption) ?_
                      refine still_does H rfl (does_eql rfl rfl) ?_; intro a H
                      exact wpStill_nil (H.strip 2 rfl rfl)
                    case k =>
                      clear H a; intro a H
                      refine wpStill_nil ?_
                      refine list_does H rfl (Does.to (does_or rfl rfl rfl) (show Value.bool _ = Value.bool true from rfl)) ?_; clear H a; intro a H
                      refine list_does H rfl (does_move rfl) ?_; clear H a; intro a H
                      refine list_yes H rfl rfl ?_
                      refine list_call H rfl rfl Try.func18 rfl rfl (law_works _) ?_; clear H a
                      rintro _ _ a ⟨rfl, S2⟩ H
                      replace S := S.call S2; clear S2
                      refine list_does H rfl (by first | exact does_and rfl rfl rfl | exact does_pick rfl rfl rfl) ?_; clear H a; intro a H
                      refine list_does H rfl (does_assign rfl) ?_; clear H a; intro a H
                      refine hK18 _ _ ?_
                      clear hK18 K18
                      refine wp_ret ?_
                      refine ret1 (fn := Try.f16) rfl H rfl ?_
                      exact ⟨rfl, (S.sel [] rfl rfl)⟩
                  · skip
                    exact absurd hc5 (by decide)
                · skip
                  have hr := hY0; unfold isRunB at hr; simp only [Bool.and_eq_true, decide_eq_true_eq] at hr
                  obtain ⟨x1, rfl⟩ := Int.eq_ofNat_of_zero_le hr.1.1
                  obtain ⟨x2, rfl⟩ := Int.eq_ofNat_of_zero_le (show 0 ≤ st by omega)
                  rw [Int.toNat_natCast, Int.toNat_natCast] at hY hY1
                  replace H := H.keep [1, 3, 5] rfl
                  refine seq_list (fun K19 hK19 => ?_)
                  refine list_does H rfl (by first | exact does_loadBox agg_23 sz_23 rfl S (i := 0) rfl rfl | exact does_loadBox agg_23 sz_23 rfl S (i := 1) rfl rfl | exact does_loadBox agg_23 sz_23 rfl S (i := 2) rfl rfl) ?_; clear H a; intro a H
                  refine list_does H rfl (does_move rfl) ?_; clear H a; intro a H
                  refine list_does H rfl (by first | exact does_field_pt fo_26_0 rfl | exact does_field fo_26_0 rfl) ?_; clear H a; intro a H
                  refine list_does H rfl (does_load one_3 rfl (by first | exact boxM.rd S (i := 0) rfl rfl | exact boxM.rd S (i := 1) rfl rfl | exact boxM.rd S (i := 2) rfl rfl)) ?_; clear H a; intro a H
                  refine list_does H rfl (by first | exact does_field_pt fo_26_1 rfl | exact does_field fo_26_1 rfl) ?_; clear H a; intro a H
                  refine list_does H rfl (does_load one_3 rfl (by first | exact boxM.rd S (i := 0) rfl rfl | exact boxM.rd S (i := 1) rfl rfl | exact boxM.rd S (i := 2) rfl rfl)) ?_; clear H a; intro a H
                  refine list_does H rfl (by first | exact does_field_pt fo_26_2 rfl | exact does_field fo_26_2 rfl) ?_; clear H a; intro a H
                  refine list_does H rfl (does_load one_3 rfl (by first | exact boxM.rd S (i := 0) rfl rfl | exact boxM.rd S (i := 1) rfl rfl | exact boxM.rd S (i := 2) rfl rfl)) ?_; clear H a; intro a H
                  refine list_call H rfl rfl Try.func53 rfl rfl (ret_imp (chain_Why links pitch limit l A cp (x1 : Int) (x2 : Int) sl _ (hl.now S) hn) (fun _ _ h => list_ok hY h)) ?_; clear H a
                  rintro _ _ a ⟨A6, c6, rfl, S2⟩ H
                  replace S := S.call S2; clear S2
                  refine list_does H rfl (does_move rfl) ?_; clear H a; intro a H
                  refine list_does H rfl (does_extract rfl rfl) ?_; clear H a; intro a H
                  refine list_does H rfl (does_extract rfl rfl) ?_; clear H a; intro a H
                  refine list_does H rfl (does_assign rfl) ?_; clear H a; intro a H
                  refine list_does H rfl (does_assign rfl) ?_; clear H a; intro a H
                  refine hK19 _ _ ?_
                  clear hK19 K19
                  refine wp_seq_k (fun K20 hK20 => ?_)
                  replace H := H.keep [1, 3, 5, 8, 16] rfl
                  refine seq_still (fun K21 hK21 => ?_)
                  refine still_does H rfl (does_move rfl) ?_; clear H a; intro a H
                  refine still_does H rfl (does_neq rfl rfl) ?_; clear H a; intro a H
                  refine wpStill_nil (hK21 _ ?_)
                  clear hK21 K21
                  refine cond_ H rfl (fun hc6 => ?_) (fun hc6 => ?_)
                  · skip
                    exact absurd hc6 (by decide)
                  · skip
                    refine wp_skip ?_
                    refine hK20 _ _ ?_
                    refine wp_seq_k (fun K22 hK22 => ?_)
                    replace H := H.keep [1, 3, 5, 16] rfl
                    refine seq_still (fun K23 hK23 => ?_)
                    refine still_does H rfl (does_assign rfl) ?_; clear H a; intro a H
                    refine wpStill_nil (hK23 _ ?_)
                    clear hK23 K23
                    refine wp_block ?_
                    refine loop_st (X := Int) (R0 := _) [1, 3, 5, 16] H rfl (fun i => [(17, .int .i64 i)]) (fun i => []) (fun g i => -1 ≤ i ∧ i ≤ ((spK (sufP (⟨links, pitch, limit⟩ : Chain) l x1 x2 sl false) l.length).length : Int) ∧ g = ((spK (sufP (⟨links, pitch, limit⟩ : Chain) l x1 x2 sl false) l.length).length - i).toNat) ((spK (sufP (⟨links, pitch, limit⟩ : Chain) l x1 x2 sl false) l.length).length + 1) (-1) ?_ (S.sel [0, 1, 2, 3] rfl rfl) (H.keep [17, 1, 3, 5, 16] rfl) ?_
                    · exact ⟨by omega, by omega, by omega⟩
                    · intro g1 x1 a w1 hp S H K24 hK24
                      obtain ⟨i, rfl⟩ : ∃ y, y = x1 := ⟨_, rfl⟩
                      skip
                      refine wp_seq_k (fun K25 hK25 => ?_)
                      replace H := H.keep [1, 3, 5, 16, 17] rfl
                      refine seq_still (fun K26 hK26 => ?_)
                      refine still_does H rfl (does_move rfl) ?_; clear H a; intro a H
                      refine still_does H rfl (does_move rfl) ?_; clear H a; intro a H
                      refine still_does H rfl (does_len sl_29 rfl) ?_; clear H a; intro a H
                      refine still_does H rfl (does_lss rfl rfl) ?_; clear H a; intro a H
                      refine wpStill_nil (hK26 _ ?_)
                      clear hK26 K26
                      refine cond_ H rfl (fun hc7 => ?_) (fun hc7 => ?_)
                      · try simp only [Bool.or_eq_true, Bool.and_eq_true, Bool.not_eq_true', Bool.or_eq_false_iff, Bool.and_eq_false_iff, Bool.not_eq_false', decide_eq_true_eq, decide_eq_false_iff_not, Int.not_lt, Int.not_le] at hc7
                        refine wp_skip ?_
                        refine hK25 _ _ ?_
                        refine wp_seq_k (fun K27 hK27 => ?_)
                        refine wp_block ?_
                        have hpk := pk_suf (fr := x1) (to := x2) (most := sl) (apart := false) hk (by show x1 < links.toNat + 1; omega) (by show x2 < links.toNat + 1; omega) hY1 (but := i) (by omega)
                        have hkp := check_pk (but := i) hk (ks := spK (sufP (⟨links, pitch, limit⟩ : Chain) l x1 x2 sl false) l.length) (fun k hk => spK_in hk) (spK_len _)
                        have hpl := pk_len (l := l) (ks := spK (sufP (⟨links, pitch, limit⟩ : Chain) l x1 x2 sl false) l.length) (but := i); have hkl := spK_len (suf := (sufP (⟨links, pitch, limit⟩ : Chain) l x1 x2 sl false)) l.length
                        replace H := H.keep [1, 3, 5, 16, 17] rfl
                        refine seq_list (fun K28 hK28 => ?_)
                        refine list_does H rfl (does_move rfl) ?_; clear H a; intro a H
                        refine list_does H rfl (does_move rfl) ?_; clear H a; intro a H
                        refine list_does H rfl (does_move rfl) ?_; clear H a; intro a H
                        refine list_call H rfl rfl Try.func58 rfl rfl (law_picked l A cp (spK (sufP (⟨links, pitch, limit⟩ : Chain) l x1 x2 sl false) l.length) A6 c6 i _ (hl.now S) (ownM.inS S (i := 0) rfl) (fun k hk => spK_in hk) (fun k hk => spK_asc hk) (by omega) (by have := spK_len (suf := (sufP (⟨links, pitch, limit⟩ : Chain) l x1 x2 sl false)) l.length; omega)) ?_; clear H a
                        rintro _ _ a ⟨A8, c8, rfl, S2⟩ H
                        replace S := S.call S2; clear S2
                        refine list_does H rfl (does_move rfl) ?_; clear H a; intro a H
                        refine list_does H rfl (does_extract rfl rfl) ?_; clear H a; intro a H
                        refine list_does H rfl (does_extract rfl rfl) ?_; clear H a; intro a H
                        refine list_does H rfl (does_assign rfl) ?_; clear H a; intro a H
                        refine list_does H rfl (does_assign rfl) ?_; clear H a; intro a H
                        refine hK28 _ _ ?_
                        clear hK28 K28
                        replace H := H.keep [1, 3, 5, 16, 17, 18, 19] rfl
                        refine seq_list (fun K29 hK29 => ?_)
                        refine list_does H rfl (by first | exact does_loadBox agg_23 sz_23 rfl S (i := 0) rfl rfl | exact does_loadBox agg_23 sz_23 rfl S (i := 1) rfl rfl | exact does_loadBox agg_23 sz_23 rfl S (i := 2) rfl rfl | exact does_loadBox agg_23 sz_23 rfl S (i := 3) rfl rfl | exact does_loadBox agg_23 sz_23 rfl S (i := 4) rfl rfl) ?_; clear H a; intro a H
                        refine list_does H rfl (does_move rfl) ?_; clear H a; intro a H
                        refine list_does H rfl (by first | exact does_field_pt fo_26_0 rfl | exact does_field fo_26_0 rfl) ?_; clear H a; intro a H
                        refine list_does H rfl (does_load one_3 rfl (by first | exact boxM.rd S (i := 0) rfl rfl | exact boxM.rd S (i := 1) rfl rfl | exact boxM.rd S (i := 2) rfl rfl | exact boxM.rd S (i := 3) rfl rfl | exact boxM.rd S (i := 4) rfl rfl)) ?_; clear H a; intro a H
                        refine list_does H rfl (by first | exact does_field_pt fo_26_1 rfl | exact does_field fo_26_1 rfl) ?_; clear H a; intro a H
                        refine list_does H rfl (does_load one_3 rfl (by first | exact boxM.rd S (i := 0) rfl rfl | exact boxM.rd S (i := 1) rfl rfl | exact boxM.rd S (i := 2) rfl rfl | exact boxM.rd S (i := 3) rfl rfl | exact boxM.rd S (i := 4) rfl rfl)) ?_; clear H a; intro a H
                        refine list_call H rfl rfl Try.func28 rfl rfl (chain_Run links pitch limit _ A8 c8 (x1 : Int) (x2 : Int) _ (ownM.inS S (i := 0) rfl) (by omega)) ?_; clear H a
                        rintro _ _ a ⟨rfl, S2⟩ H
                        replace S := S.call S2; clear S2
                        have hbb := run_suf (most := sl) hkp hY0
                        rw [Int.toNat_natCast, Int.toNat_natCast, hpk] at hbb
                        generalize runO (⟨links, pitch, limit⟩ : Chain) (pkL l (spK (sufP (⟨links, pitch, limit⟩ : Chain) l x1 x2 sl false) l.length) i) ((x1 : Nat) : Int) ((x2 : Nat) : Int) = r at H hbb
                        simp only [runV] at H
                        refine list_does H rfl (does_move rfl) ?_; clear H a; intro a H
                        refine list_does H rfl (does_extract rfl rfl) ?_; clear H a; intro a H
                        refine list_does H rfl (does_extract rfl rfl) ?_; clear H a; intro a H
                        refine list_alloc H rfl S ze_42 ?_; clear H a S; intro b20 _ a hb20 hbw20 S H
                        first | (refine list_store H S (i := 0) rfl rfl rfl rfl sz_42 rfl rfl ?_) | (refine list_store H S (i := 1) rfl rfl rfl rfl sz_42 rfl rfl ?_) | (refine list_store H S (i := 2) rfl rfl rfl rfl sz_42 rfl rfl ?_) | (refine list_store H S (i := 3) rfl rfl rfl rfl sz_42 rfl rfl ?_) | (refine list_store H S (i := 4) rfl rfl rfl rfl sz_42 rfl rfl ?_) | (refine list_store H S (i := 5) rfl rfl rfl rfl sz_42 rfl rfl ?_) | (refine list_store_own H S (i := 0) rfl rfl rfl (by omega) (by omega) sz_42 rfl ?_) | (refine list_store_own H S (i := 1) rfl rfl rfl (by omega) (by omega) sz_42 rfl ?_) | (refine list_store_own H S (i := 2) rfl rfl rfl (by omega) (by omega) sz_42 rfl ?_) | (refine list_store_own H S (i := 3) rfl rfl rfl (by omega) (by omega) sz_42 rfl ?_) | (refine list_store_own H S (i := 4) rfl rfl rfl (by omega) (by omega) sz_42 rfl ?_) | (refine list_store_own H S (i := 5) rfl rfl rfl (by omega) (by omega) sz_42 rfl ?_)
                        clear H a S; intro _ a S H
                        refine list_does H rfl (does_assign rfl) ?_; clear H a; intro a H
                        refine hK29 _ _ ?_
                        clear hK29 K29
                        replace H := H.keep [1, 3, 5, 16, 17, 19, 20, 21] rfl
                        refine seq_still (fun K30 hK30 => ?_)
                        refine still_does H rfl (does_move rfl) ?_; clear H a; intro a H
                        refine still_does H rfl (does_not rfl) ?_; clear H a; intro a H
                        refine still_does H rfl (does_move rfl) ?_; clear H a; intro a H
                        apply still_guard (i := 2) (g := 139) (t := 155) (b := false) 16 H rfl rfl (by kernel_rfl) (by kernel_rfl) rfl rfl
                        case h1 =>
                          intro hg3
                          refine still_yes' H rfl rfl (by assumption) ?_
                          refine still_does H rfl (does_move rfl) ?_; intro a H
                          refine still_yes' H rfl rfl (by assumption) ?_
                          refine still_does H rfl (does_eql rfl rfl) ?_; intro a H
                          refine still_yes' H rfl rfl (by assumption) ?_
                          refine still_does H rfl (does_move rfl) ?_; intro a H
                          apply still_guard (i := 5) (g := 142) (t := 151) (b := false) 9 H rfl rfl (by kernel_rfl) (by kernel_rfl) rfl rfl
                          case h1 =>
                            intro hg6
                            refine still_yes' H rfl rfl (by assumption) ?_
                            refine still_does H rfl (does_move rfl) ?_; intro a H
                            refine still_yes' H rfl rfl (by assumption) ?_
                            refine still_does H rfl (does_eql rfl rfl) ?_; intro a H
                            refine still_yes' H rfl rfl (by assumption) ?_
                            refine still_does H rfl (does_move rfl) ?_; intro a H
                            apply still_guard (i := 8) (g := 145) (t := 150) (b := true) 5 H rfl rfl (by kernel_rfl) (by kernel_rfl) rfl rfl
                            case h1 =>
                              intro hg9
                              refine still_yes' H rfl rfl (by assumption) ?_
                              refine still_does H rfl (by first | exact does_field_pt fo_42_1 rfl | exact does_field fo_42_1 rfl) ?_; intro a H
                              refine still_yes' H rfl rfl (by assumption) ?_
                              refine still_does H rfl (does_load one_3 rfl (by first | exact boxM.rd S (i := 0) rfl rfl | exact boxM.rd S (i := 1) rfl rfl | exact boxM.rd S (i := 2) rfl rfl | exact boxM.rd S (i := 3) rfl rfl | exact boxM.rd S (i := 4) rfl rfl | exact boxM.rd S (i := 5) rfl rfl)) ?_; intro a H
                              refine still_yes' H rfl rfl (by assumption) ?_
                              refine still_does H rfl (by first | exact does_field_pt fo_26_2 rfl | exact does_field fo_26_2 rfl) ?_; intro a H
                              refine still_yes' H rfl rfl (by assumption) ?_
                              refine still_does H rfl (does_load one_3 rfl (by first | exact boxM.rd S (i := 0) rfl rfl | exact boxM.rd S (i := 1) rfl rfl | exact boxM.rd S (i := 2) rfl rfl | exact boxM.rd S (i := 3) rfl rfl | exact boxM.rd S (i := 4) rfl rfl | exact boxM.rd S (i := 5) rfl rfl)) ?_; intro a H
                              refine still_yes' H rfl rfl (by assumption) ?_
                              refine still_does H rfl (does_leq rfl rfl) ?_; intro a H
                              exact wpStill_nil (H.strip 5 rfl rfl)
                            case k =>
                              intro a H
                              refine still_yes' H rfl rfl (by assumption) ?_
                              refine still_does H rfl (by first | exact does_and rfl rfl rfl | exact does_pick rfl rfl rfl) ?_; intro a H
                              exact wpStill_nil (H.strip 5 rfl rfl)
                          case k =>
                            intro a H
                            refine still_yes' H rfl rfl (by assumption) ?_
                            refine still_does H rfl (by first | exact does_or rfl rfl rfl | exact does_pick rfl rfl rfl) ?_; intro a H
                            refine still_yes' H rfl rfl (by assumption) ?_
                            refine still_does H rfl (does_move rfl) ?_; intro a H
                            refine still_yes' H rfl rfl (by assumption) ?_
                            refine still_does H rfl (does_lss rfl rfl) ?_; intro a H
                            refine still_yes' H rfl rfl (by assumption) ?_
                            refine still_does H rfl (does_neqb Try.underlying4 rfl rfl) ?_; intro a H
                            exact wpStill_nil (H.strip 8 rfl rfl)
                        case k =>
                          clear H a; intro a H
                          refine still_does H rfl (by first | exact does_or rfl rfl rfl | exact does_pick rfl rfl rfl) ?_; clear H a; intro a H
                          refine wpStill_nil (hK30 _ ?_)
                          clear hK30 K30
                          refine cond_ H rfl (fun hc8 => ?_) (fun hc8 => ?_)
                          · skip
                            exfalso; rw [hbb] at hc8; simp at hc8
                          · skip
                            refine wp_skip ?_
                            refine hK27 _ _ ?_
                            replace H := H.keep [1, 3, 5, 16, 17] rfl
                            refine one_still ?_
                            refine still_does H rfl (does_move rfl) ?_; clear H a; intro a H
                            refine still_does H rfl (does_add rfl rfl (by unfold i64ok; omega)) ?_; clear H a; intro a H
                            refine still_does H rfl (does_assign rfl) ?_; clear H a; intro a H
                            refine wpStill_nil ?_
                            exact hK24 (g1 - 1) (i + 1) a _ (by omega) (⟨by omega, by omega, by omega⟩) (S.sel [2, 3, 4, 5] rfl rfl) (H.keep [17, 1, 3, 5, 16] rfl)
                      · try simp only [Bool.or_eq_true, Bool.and_eq_true, Bool.not_eq_true', Bool.or_eq_false_iff, Bool.and_eq_false_iff, Bool.not_eq_false', decide_eq_true_eq, decide_eq_false_iff_not, Int.not_lt, Int.not_le] at hc7
                        refine wp_exit ?_
                        refine hK22 _ _ ?_
                        replace H := H.keep [] rfl
                        refine seq_list (fun K32 hK32 => ?_)
                        refine list_call H rfl rfl Try.func18 rfl rfl (law_works _) ?_; clear H a
                        rintro _ _ a ⟨rfl, S2⟩ H
                        replace S := S.call S2; clear S2
                        refine list_does H rfl (does_assign rfl) ?_; clear H a; intro a H
                        refine hK32 _ _ ?_
                        clear hK32 K32
                        refine wp_ret ?_
                        refine ret1 (fn := Try.f16) rfl H rfl ?_
                        exact ⟨rfl, (S.sel [] rfl rfl)⟩
        · skip
          rw [hs, if_pos rfl] at hcc
          replace H := H.keep [1, 3, 5] rfl
          refine seq_list (fun K33 hK33 => ?_)
          refine list_does H rfl (by first | exact does_loadBox agg_23 sz_23 rfl S (i := 0) rfl rfl | exact does_loadBox agg_23 sz_23 rfl S (i := 1) rfl rfl) ?_; clear H a; intro a H
          refine list_does H rfl (does_move rfl) ?_; clear H a; intro a H
          refine list_call H rfl rfl Try.func51 rfl rfl (ret_imp (chain_Conflict links pitch limit l A cp _ (hl.now S) hn) (fun _ _ h => list_ok hcc h)) ?_; clear H a
          rintro _ _ a ⟨A7, c7, rfl, S2⟩ H
          replace S := S.call S2; clear S2
          refine list_does H rfl (does_move rfl) ?_; clear H a; intro a H
          refine list_does H rfl (does_extract rfl rfl) ?_; clear H a; intro a H
          refine list_does H rfl (does_extract rfl rfl) ?_; clear H a; intro a H
          refine list_does H rfl (does_assign rfl) ?_; clear H a; intro a H
          refine list_does H rfl (does_assign rfl) ?_; clear H a; intro a H
          refine hK33 _ _ ?_
          clear hK33 K33
          replace H := H.keep [1, 3, 5, 7, 8] rfl
          refine seq_list (fun K34 hK34 => ?_)
          refine list_does H rfl (by first | exact does_loadBox agg_23 sz_23 rfl S (i := 0) rfl rfl | exact does_loadBox agg_23 sz_23 rfl S (i := 1) rfl rfl | exact does_loadBox agg_23 sz_23 rfl S (i := 2) rfl rfl) ?_; clear H a; intro a H
          refine list_does H rfl (does_move rfl) ?_; clear H a; intro a H
          refine list_call H rfl rfl Try.func25 rfl rfl (chain_LinksE links pitch limit l A cp _ (hl.now S) hn) ?_; clear H a
          rintro _ _ a ⟨A4, n4, c4, f4, rfl, S2⟩ H
          replace S := S.call S2; clear S2
          rw [err_suf hk, hs] at H
          refine list_does H rfl (does_move rfl) ?_; clear H a; intro a H
          refine list_does H rfl (does_extract rfl rfl) ?_; clear H a; intro a H
          refine list_does H rfl (does_extract rfl rfl) ?_; clear H a; intro a H
          refine list_does H rfl (does_assign rfl) ?_; clear H a; intro a H
          refine list_does H rfl (does_assign rfl) ?_; clear H a; intro a H
          refine hK34 _ _ ?_
          clear hK34 K34
          refine wp_seq_k (fun K35 hK35 => ?_)
          replace H := H.keep [1, 3, 5, 7, 8, 10] rfl
          refine seq_still (fun K36 hK36 => ?_)
          refine still_does H rfl (does_move rfl) ?_; clear H a; intro a H
          refine still_does H rfl (does_eql rfl rfl) ?_; clear H a; intro a H
          refine still_does H rfl (does_move rfl) ?_; clear H a; intro a H
          refine still_does H rfl (does_eql rfl rfl) ?_; clear H a; intro a H
          refine still_does H rfl (does_neqb Try.underlying4 rfl rfl) ?_; clear H a; intro a H
          refine still_does H rfl (does_move rfl) ?_; clear H a; intro a H
          apply still_guard (i := 5) (g := 53) (t := 59) (b := false) 6 H rfl rfl (by kernel_rfl) (by kernel_rfl) rfl rfl
          case h1 =>
            intro hg6
            refine still_yes' H rfl rfl (by assumption) ?_
            refine still_does H rfl (does_move rfl) ?_; intro a H
            refine still_yes' H rfl rfl (by assumption) ?_
            refine still_does H rfl (does_neq rfl rfl) ?_; intro a H
            refine still_yes' H rfl rfl (by assumption) ?_
            refine still_does H rfl (does_move rfl) ?_; intro a H
            apply still_guard (i := 8) (g := 56) (t := 58) (b := true) 2 H rfl rfl (by kernel_rfl) (by kernel_rfl) rfl rfl
            case h1 =>
              intro hg9
              refine still_yes' H rfl rfl (by assumption) ?_
              refine still_does H rfl (does_move rfl) ?_; intro a H
              refine still_yes' H rfl rfl (by assumption) ?_
              refine still_does H rfl (does_neq rfl rfl) ?_; intro a H
              exact wpStill_nil (H.strip 2 rfl rfl)
            case k =>
              intro a H
              refine still_yes' H rfl rfl (by assumption) ?_
              refine still_does H rfl (by first | exact does_and rfl rfl rfl | exact does_pick rfl rfl rfl) ?_; intro a H
              exact wpStill_nil (H.strip 5 rfl rfl)
          case k =>
            clear H a; intro a H
            refine still_does H rfl (by first | exact does_or rfl rfl rfl | exact does_pick rfl rfl rfl) ?_; clear H a; intro a H
            refine wpStill_nil (hK36 _ ?_)
            clear hK36 K36
            refine cond_ H rfl (fun hc9 => ?_) (fun hc9 => ?_)
            · skip
              exact absurd hc9 (by decide)
            · skip
              refine wp_skip ?_
              refine hK35 _ _ ?_
              refine wp_seq_k (fun K37 hK37 => ?_)
              replace H := H.keep [1, 3, 5, 7, 8] rfl
              refine seq_still (fun K38 hK38 => ?_)
              refine still_does H rfl (does_move rfl) ?_; clear H a; intro a H
              refine still_does H rfl (does_eql rfl rfl) ?_; clear H a; intro a H
              refine wpStill_nil (hK38 _ ?_)
              clear hK38 K38
              refine cond_ H rfl (fun hc10 => ?_) (fun hc10 => ?_)
              · skip
                replace H := H.keep [1, 3, 5, 7] rfl
                refine seq_still (fun K39 hK39 => ?_)
                refine still_does H rfl (does_assign rfl) ?_; clear H a; intro a H
                refine wpStill_nil (hK39 _ ?_)
                clear hK39 K39
                refine wp_block ?_
                refine loop_st (X := Int) (R0 := _) [1, 3, 5, 7] H rfl (fun i => [(11, .int .i64 i)]) (fun i => []) (fun g i => -1 ≤ i ∧ i ≤ ((spK (sufP (⟨links, pitch, limit⟩ : Chain) l 0 0 0 true) l.length).length : Int) ∧ g = ((spK (sufP (⟨links, pitch, limit⟩ : Chain) l 0 0 0 true) l.length).length - i).toNat) ((spK (sufP (⟨links, pitch, limit⟩ : Chain) l 0 0 0 true) l.length).length + 1) (-1) ?_ (S.sel [0, 1, 2, 3] rfl rfl) (H.keep [11, 1, 3, 5, 7] rfl) ?_
                · exact ⟨by omega, by omega, by omega⟩
                · intro g2 x2 a w2 hp S H K40 hK40
                  obtain ⟨i, rfl⟩ : ∃ y, y = x2 := ⟨_, rfl⟩
                  skip
                  refine wp_seq_k (fun K41 hK41 => ?_)
                  replace H := H.keep [1, 3, 5, 7, 11] rfl
                  refine seq_still (fun K42 hK42 => ?_)
                  refine still_does H rfl (does_move rfl) ?_; clear H a; intro a H
                  refine still_does H rfl (does_move rfl) ?_; clear H a; intro a H
                  refine still_does H rfl (does_len sl_29 rfl) ?_; clear H a; intro a H
                  refine still_does H rfl (does_lss rfl rfl) ?_; clear H a; intro a H
                  refine wpStill_nil (hK42 _ ?_)
                  clear hK42 K42
                  refine cond_ H rfl (fun hc11 => ?_) (fun hc11 => ?_)
                  · try simp only [Bool.or_eq_true, Bool.and_eq_true, Bool.not_eq_true', Bool.or_eq_false_iff, Bool.and_eq_false_iff, Bool.not_eq_false', decide_eq_true_eq, decide_eq_false_iff_not, Int.not_lt, Int.not_le] at hc11
                    refine wp_skip ?_
                    refine hK41 _ _ ?_
                    refine wp_seq_k (fun K43 hK43 => ?_)
                    refine wp_block ?_
                    have hpk := pk_suf (fr := 0) (to := 0) (most := 0) (apart := true) hk (by show 0 < links.toNat + 1; omega) (by show 0 < links.toNat + 1; omega) hs (but := i) (by omega)
                    have hkp := check_pk (but := i) hk (ks := spK (sufP (⟨links, pitch, limit⟩ : Chain) l 0 0 0 true) l.length) (fun k hk => spK_in hk) (spK_len _)
                    have hpl := pk_len (l := l) (ks := spK (sufP (⟨links, pitch, limit⟩ : Chain) l 0 0 0 true) l.length) (but := i); have hkl := spK_len (suf := (sufP (⟨links, pitch, limit⟩ : Chain) l 0 0 0 true)) l.length
                    replace H := H.keep [1, 3, 5, 7, 11] rfl
                    refine seq_list (fun K44 hK44 => ?_)
                    refine list_does H rfl (does_move rfl) ?_; clear H a; intro a H
                    refine list_does H rfl (does_move rfl) ?_; clear H a; intro a H
                    refine list_does H rfl (does_move rfl) ?_; clear H a; intro a H
                    refine list_call H rfl rfl Try.func58 rfl rfl (law_picked l A cp (spK (sufP (⟨links, pitch, limit⟩ : Chain) l 0 0 0 true) l.length) A7 c7 i _ (hl.now S) (ownM.inS S (i := 1) rfl) (fun k hk => spK_in hk) (fun k hk => spK_asc hk) (by omega) (by have := spK_len (suf := (sufP (⟨links, pitch, limit⟩ : Chain) l 0 0 0 true)) l.length; omega)) ?_; clear H a
                    rintro _ _ a ⟨A8, c8, rfl, S2⟩ H
                    replace S := S.call S2; clear S2
                    refine list_does H rfl (does_move rfl) ?_; clear H a; intro a H
                    refine list_does H rfl (does_extract rfl rfl) ?_; clear H a; intro a H
                    refine list_does H rfl (does_extract rfl rfl) ?_; clear H a; intro a H
                    refine list_does H rfl (does_assign rfl) ?_; clear H a; intro a H
                    refine list_does H rfl (does_assign rfl) ?_; clear H a; intro a H
                    refine hK44 _ _ ?_
                    clear hK44 K44
                    replace H := H.keep [1, 3, 5, 7, 11, 12, 13] rfl
                    refine seq_list (fun K45 hK45 => ?_)
                    refine list_does H rfl (by first | exact does_loadBox agg_23 sz_23 rfl S (i := 0) rfl rfl | exact does_loadBox agg_23 sz_23 rfl S (i := 1) rfl rfl | exact does_loadBox agg_23 sz_23 rfl S (i := 2) rfl rfl | exact does_loadBox agg_23 sz_23 rfl S (i := 3) rfl rfl | exact does_loadBox agg_23 sz_23 rfl S (i := 4) rfl rfl) ?_; clear H a; intro a H
                    refine list_does H rfl (does_move rfl) ?_; clear H a; intro a H
                    refine list_call H rfl rfl Try.func25 rfl rfl (chain_LinksE links pitch limit _ A8 c8 _ (ownM.inS S (i := 0) rfl) (by omega)) ?_; clear H a
                    rintro _ _ a ⟨A9, n9, c9, f9, rfl, S2⟩ H
                    replace S := S.call S2; clear S2
                    rw [err_suf hkp, hpk] at H
                    refine list_does H rfl (does_move rfl) ?_; clear H a; intro a H
                    refine list_does H rfl (does_extract rfl rfl) ?_; clear H a; intro a H
                    refine list_does H rfl (does_extract rfl rfl) ?_; clear H a; intro a H
                    refine list_does H rfl (does_assign rfl) ?_; clear H a; intro a H
                    refine list_does H rfl (does_assign rfl) ?_; clear H a; intro a H
                    refine hK45 _ _ ?_
                    clear hK45 K45
                    replace H := H.keep [1, 3, 5, 7, 11, 13, 15] rfl
                    refine seq_still (fun K46 hK46 => ?_)
                    refine still_does H rfl (does_move rfl) ?_; clear H a; intro a H
                    refine still_does H rfl (does_not rfl) ?_; clear H a; intro a H
                    refine still_does H rfl (does_move rfl) ?_; clear H a; intro a H
                    apply still_guard (i := 2) (g := 84) (t := 89) (b := false) 5 H rfl rfl (by kernel_rfl) (by kernel_rfl) rfl rfl
                    case h1 =>
                      intro hg3
                      refine still_yes' H rfl rfl (by assumption) ?_
                      refine still_does H rfl (does_move rfl) ?_; intro a H
                      refine still_yes' H rfl rfl (by assumption) ?_
                      refine still_does H rfl (does_eql rfl rfl) ?_; intro a H
                      refine still_yes' H rfl rfl (by assumption) ?_
                      refine still_does H rfl (does_move rfl) ?_; intro a H
                      refine still_yes' H rfl rfl (by assumption) ?_
                      refine still_does H rfl (does_lss rfl rfl) ?_; intro a H
                      refine still_yes' H rfl rfl (by assumption) ?_
                      refine still_does H rfl (does_neqb Try.underlying4 rfl rfl) ?_; intro a H
                      exact wpStill_nil (H.strip 5 rfl rfl)
                    case k =>
                      clear H a; intro a H
                      refine still_does H rfl (by first | exact does_or rfl rfl rfl | exact does_pick rfl rfl rfl) ?_; clear H a; intro a H
                      refine wpStill_nil (hK46 _ ?_)
                      clear hK46 K46
                      refine cond_ H rfl (fun hc12 => ?_) (fun hc12 => ?_)
                      · skip
                        exfalso; by_cases h : i < 0 <;> simp [h] at hc12
                      · skip
                        refine wp_skip ?_
                        refine hK43 _ _ ?_
                        replace H := H.keep [1, 3, 5, 7, 11] rfl
                        refine one_still ?_
                        refine still_does H rfl (does_move rfl) ?_; clear H a; intro a H
                        refine still_does H rfl (does_add rfl rfl (by unfold i64ok; omega)) ?_; clear H a; intro a H
                        refine still_does H rfl (does_assign rfl) ?_; clear H a; intro a H
                        refine wpStill_nil ?_
                        exact hK40 (g2 - 1) (i + 1) a _ (by omega) (⟨by omega, by omega, by omega⟩) (S.sel [2, 3, 4, 5] rfl rfl) (H.keep [11, 1, 3, 5, 7] rfl)
                  · try simp only [Bool.or_eq_true, Bool.and_eq_true, Bool.not_eq_true', Bool.or_eq_false_iff, Bool.and_eq_false_iff, Bool.not_eq_false', decide_eq_true_eq, decide_eq_false_iff_not, Int.not_lt, Int.not_le] at hc11
                    refine wp_exit ?_
                    refine hK37 _ _ ?_
                    rcases why_cases (a := sf) (b := st) (most := sl) hk with (hY | hY) | ⟨hY0, hY1, hY⟩
                    · skip
                      skip
                      replace H := H.keep [1, 3, 5] rfl
                      refine seq_list (fun K48 hK48 => ?_)
                      refine list_does H rfl (by first | exact does_loadBox agg_23 sz_23 rfl S (i := 0) rfl rfl | exact does_loadBox agg_23 sz_23 rfl S (i := 1) rfl rfl | exact does_loadBox agg_23 sz_23 rfl S (i := 2) rfl rfl | exact does_loadBox agg_23 sz_23 rfl S (i := 3) rfl rfl) ?_; clear H a; intro a H
                      refine list_does H rfl (does_move rfl) ?_; clear H a; intro a H
                      refine list_does H rfl (by first | exact does_field_pt fo_26_0 rfl | exact does_field fo_26_0 rfl) ?_; clear H a; intro a H
                      refine list_does H rfl (does_load one_3 rfl (by first | exact boxM.rd S (i := 0) rfl rfl | exact boxM.rd S (i := 1) rfl rfl | exact boxM.rd S (i := 2) rfl rfl | exact boxM.rd S (i := 3) rfl rfl)) ?_; clear H a; intro a H
                      refine list_does H rfl (by first | exact does_field_pt fo_26_1 rfl | exact does_field fo_26_1 rfl) ?_; clear H a; intro a H
                      refine list_does H rfl (does_load one_3 rfl (by first | exact boxM.rd S (i := 0) rfl rfl | exact boxM.rd S (i := 1) rfl rfl | exact boxM.rd S (i := 2) rfl rfl | exact boxM.rd S (i := 3) rfl rfl)) ?_; clear H a; intro a H
                      refine list_does H rfl (by first | exact does_field_pt fo_26_2 rfl | exact does_field fo_26_2 rfl) ?_; clear H a; intro a H
                      refine list_does H rfl (does_load one_3 rfl (by first | exact boxM.rd S (i := 0) rfl rfl | exact boxM.rd S (i := 1) rfl rfl | exact boxM.rd S (i := 2) rfl rfl | exact boxM.rd S (i := 3) rfl rfl)) ?_; clear H a; intro a H
                      refine list_call H rfl rfl Try.func53 rfl rfl (ret_imp (chain_Why links pitch limit l A cp sf st sl _ (hl.now S) hn) (fun _ _ h => list_err hY h)) ?_; clear H a
                      rintro _ _ a ⟨rfl, S2⟩ H
                      replace S := S.call S2; clear S2
                      refine list_does H rfl (does_move rfl) ?_; clear H a; intro a H
                      refine list_does H rfl (does_extract rfl rfl) ?_; clear H a; intro a H
                      refine list_does H rfl (does_extract rfl rfl) ?_; clear H a; intro a H
                      refine list_does H rfl (does_assign rfl) ?_; clear H a; intro a H
                      refine list_does H rfl (does_assign rfl) ?_; clear H a; intro a H
                      refine hK48 _ _ ?_
                      clear hK48 K48
                      refine wp_seq_k (fun K49 hK49 => ?_)
                      replace H := H.keep [1, 3, 5, 8, 16] rfl
                      refine seq_still (fun K50 hK50 => ?_)
                      refine still_does H rfl (does_move rfl) ?_; clear H a; intro a H
                      refine still_does H rfl (does_neq rfl rfl) ?_; clear H a; intro a H
                      refine wpStill_nil (hK50 _ ?_)
                      clear hK50 K50
                      refine cond_ H rfl (fun hc13 => ?_) (fun hc13 => ?_)
                      · skip
                        replace H := H.keep [8] rfl
                        refine seq_list (fun K51 hK51 => ?_)
                        refine list_does H rfl (does_move rfl) ?_; clear H a; intro a H
                        refine list_does H rfl (does_eql rfl rfl) ?_; clear H a; intro a H
                        refine list_does H rfl (does_move rfl) ?_; clear H a; intro a H
                        refine list_still 2 ?_
                        apply still_guard (i := 2) (g := 107) (t := 109) (b := false) 2 H rfl rfl (by kernel_rfl) (by kernel_rfl) rfl rfl
                        case h1 =>
                          intro hg3
                          refine still_yes' H rfl rfl (by assumption) ?_
                          refine still_does H rfl (does_move rfl) ?_; intro a H
                          refine still_yes' H rfl rfl (by assumption) ?_
                          refine still_does H rfl (does_eql rfl rfl) ?_; intro a H
                          exact wpStill_nil (H.strip 2 rfl rfl)
                        case k =>
                          clear H a; intro a H
                          refine wpStill_nil ?_
                          refine list_does H rfl (Does.to (does_or rfl rfl rfl) (show Value.bool _ = Value.bool true from rfl)) ?_; clear H a; intro a H
                          refine list_does H rfl (does_move rfl) ?_; clear H a; intro a H
                          refine list_yes H rfl rfl ?_
                          refine list_call H rfl rfl Try.func18 rfl rfl (law_works _) ?_; clear H a
                          rintro _ _ a ⟨rfl, S2⟩ H
                          replace S := S.call S2; clear S2
                          refine list_does H rfl (by first | exact does_and rfl rfl rfl | exact does_pick rfl rfl rfl) ?_; clear H a; intro a H
                          refine list_does H rfl (does_assign rfl) ?_; clear H a; intro a H
                          refine hK51 _ _ ?_
                          clear hK51 K51
                          refine wp_ret ?_
                          refine ret1 (fn := Try.f16) rfl H rfl ?_
                          exact ⟨rfl, (S.sel [] rfl rfl)⟩
                      · skip
                        exact absurd hc13 (by decide)
                    · skip
                      skip
                      replace H := H.keep [1, 3, 5] rfl
                      refine seq_list (fun K52 hK52 => ?_)
                      refine list_does H rfl (by first | exact does_loadBox agg_23 sz_23 rfl S (i := 0) rfl rfl | exact does_loadBox agg_23 sz_23 rfl S (i := 1) rfl rfl | exact does_loadBox agg_23 sz_23 rfl S (i := 2) rfl rfl | exact does_loadBox agg_23 sz_23 rfl S (i := 3) rfl rfl) ?_; clear H a; intro a H
                      refine list_does H rfl (does_move rfl) ?_; clear H a; intro a H
                      refine list_does H rfl (by first | exact does_field_pt fo_26_0 rfl | exact does_field fo_26_0 rfl) ?_; clear H a; intro a H
                      refine list_does H rfl (does_load one_3 rfl (by first | exact boxM.rd S (i := 0) rfl rfl | exact boxM.rd S (i := 1) rfl rfl | exact boxM.rd S (i := 2) rfl rfl | exact boxM.rd S (i := 3) rfl rfl)) ?_; clear H a; intro a H
                      refine list_does H rfl (by first | exact does_field_pt fo_26_1 rfl | exact does_field fo_26_1 rfl) ?_; clear H a; intro a H
                      refine list_does H rfl (does_load one_3 rfl (by first | exact boxM.rd S (i := 0) rfl rfl | exact boxM.rd S (i := 1) rfl rfl | exact boxM.rd S (i := 2) rfl rfl | exact boxM.rd S (i := 3) rfl rfl)) ?_; clear H a; intro a H
                      refine list_does H rfl (by first | exact does_field_pt fo_26_2 rfl | exact does_field fo_26_2 rfl) ?_; clear H a; intro a H
                      refine list_does H rfl (does_load one_3 rfl (by first | exact boxM.rd S (i := 0) rfl rfl | exact boxM.rd S (i := 1) rfl rfl | exact boxM.rd S (i := 2) rfl rfl | exact boxM.rd S (i := 3) rfl rfl)) ?_; clear H a; intro a H
                      refine list_call H rfl rfl Try.func53 rfl rfl (ret_imp (chain_Why links pitch limit l A cp sf st sl _ (hl.now S) hn) (fun _ _ h => list_err hY h)) ?_; clear H a
                      rintro _ _ a ⟨rfl, S2⟩ H
                      replace S := S.call S2; clear S2
                      refine list_does H rfl (does_move rfl) ?_; clear H a; intro a H
                      refine list_does H rfl (does_extract rfl rfl) ?_; clear H a; intro a H
                      refine list_does H rfl (does_extract rfl rfl) ?_; clear H a; intro a H
                      refine list_does H rfl (does_assign rfl) ?_; clear H a; intro a H
                      refine list_does H rfl (does_assign rfl) ?_; clear H a; intro a H
                      refine hK52 _ _ ?_
                      clear hK52 K52
                      refine wp_seq_k (fun K53 hK53 => ?_)
                      replace H := H.keep [1, 3, 5, 8, 16] rfl
                      refine seq_still (fun K54 hK54 => ?_)
                      refine still_does H rfl (does_move rfl) ?_; clear H a; intro a H
                      refine still_does H rfl (does_neq rfl rfl) ?_; clear H a; intro a H
                      refine wpStill_nil (hK54 _ ?_)
                      clear hK54 K54
                      refine cond_ H rfl (fun hc14 => ?_) (fun hc14 => ?_)
                      · skip
                        replace H := H.keep [8] rfl
                        refine seq_list (fun K55 hK55 => ?_)
                        refine list_does H rfl (does_move rfl) ?_; clear H a; intro a H
                        refine list_does H rfl (does_eql rfl rfl) ?_; clear H a; intro a H
                        refine list_does H rfl (does_move rfl) ?_; clear H a; intro a H
                        refine list_still 2 ?_
                        apply still_guard (i := 2) (g := 107) (t := 109) (b := false) 2 H rfl rfl (by kernel_rfl) (by kernel_rfl) rfl rfl
                        case h1 =>
                          intro hg3
                          refine still_yes' H rfl rfl (by assumption) ?_
                          refine still_does H rfl (does_move rfl) ?_; intro a H
                          refine still_yes' H rfl rfl (by assumption) ?_
                          refine still_does H rfl (does_eql rfl rfl) ?_; intro a H
                          exact wpStill_nil (H.strip 2 rfl rfl)
                        case k =>
                          clear H a; intro a H
                          refine wpStill_nil ?_
                          refine list_does H rfl (Does.to (does_or rfl rfl rfl) (show Value.bool _ = Value.bool true from rfl)) ?_; clear H a; intro a H
                          refine list_does H rfl (does_move rfl) ?_; clear H a; intro a H
                          refine list_yes H rfl rfl ?_
                          refine list_call H rfl rfl Try.func18 rfl rfl (law_works _) ?_; clear H a
                          rintro _ _ a ⟨rfl, S2⟩ H
                          replace S := S.call S2; clear S2
                          refine list_does H rfl (by first | exact does_and rfl rfl rfl | exact does_pick rfl rfl rfl) ?_; clear H a; intro a H
                          refine list_does H rfl (does_assign rfl) ?_; clear H a; intro a H
                          refine hK55 _ _ ?_
                          clear hK55 K55
                          refine wp_ret ?_
                          refine ret1 (fn := Try.f16) rfl H rfl ?_
                          exact ⟨rfl, (S.sel [] rfl rfl)⟩
                      · skip
                        exact absurd hc14 (by decide)
                    · skip
                      have hr := hY0; unfold isRunB at hr; simp only [Bool.and_eq_true, decide_eq_true_eq] at hr
                      obtain ⟨x1, rfl⟩ := Int.eq_ofNat_of_zero_le hr.1.1
                      obtain ⟨x2, rfl⟩ := Int.eq_ofNat_of_zero_le (show 0 ≤ st by omega)
                      rw [Int.toNat_natCast, Int.toNat_natCast] at hY hY1
                      replace H := H.keep [1, 3, 5] rfl
                      refine seq_list (fun K56 hK56 => ?_)
                      refine list_does H rfl (by first | exact does_loadBox agg_23 sz_23 rfl S (i := 0) rfl rfl | exact does_loadBox agg_23 sz_23 rfl S (i := 1) rfl rfl | exact does_loadBox agg_23 sz_23 rfl S (i := 2) rfl rfl | exact does_loadBox agg_23 sz_23 rfl S (i := 3) rfl rfl) ?_; clear H a; intro a H
                      refine list_does H rfl (does_move rfl) ?_; clear H a; intro a H
                      refine list_does H rfl (by first | exact does_field_pt fo_26_0 rfl | exact does_field fo_26_0 rfl) ?_; clear H a; intro a H
                      refine list_does H rfl (does_load one_3 rfl (by first | exact boxM.rd S (i := 0) rfl rfl | exact boxM.rd S (i := 1) rfl rfl | exact boxM.rd S (i := 2) rfl rfl | exact boxM.rd S (i := 3) rfl rfl)) ?_; clear H a; intro a H
                      refine list_does H rfl (by first | exact does_field_pt fo_26_1 rfl | exact does_field fo_26_1 rfl) ?_; clear H a; intro a H
                      refine list_does H rfl (does_load one_3 rfl (by first | exact boxM.rd S (i := 0) rfl rfl | exact boxM.rd S (i := 1) rfl rfl | exact boxM.rd S (i := 2) rfl rfl | exact boxM.rd S (i := 3) rfl rfl)) ?_; clear H a; intro a H
                      refine list_does H rfl (by first | exact does_field_pt fo_26_2 rfl | exact does_field fo_26_2 rfl) ?_; clear H a; intro a H
                      refine list_does H rfl (does_load one_3 rfl (by first | exact boxM.rd S (i := 0) rfl rfl | exact boxM.rd S (i := 1) rfl rfl | exact boxM.rd S (i := 2) rfl rfl | exact boxM.rd S (i := 3) rfl rfl)) ?_; clear H a; intro a H
                      refine list_call H rfl rfl Try.func53 rfl rfl (ret_imp (chain_Why links pitch limit l A cp (x1 : Int) (x2 : Int) sl _ (hl.now S) hn) (fun _ _ h => list_ok hY h)) ?_; clear H a
                      rintro _ _ a ⟨A6, c6, rfl, S2⟩ H
                      replace S := S.call S2; clear S2
                      refine list_does H rfl (does_move rfl) ?_; clear H a; intro a H
                      refine list_does H rfl (does_extract rfl rfl) ?_; clear H a; intro a H
                      refine list_does H rfl (does_extract rfl rfl) ?_; clear H a; intro a H
                      refine list_does H rfl (does_assign rfl) ?_; clear H a; intro a H
                      refine list_does H rfl (does_assign rfl) ?_; clear H a; intro a H
                      refine hK56 _ _ ?_
                      clear hK56 K56
                      refine wp_seq_k (fun K57 hK57 => ?_)
                      replace H := H.keep [1, 3, 5, 8, 16] rfl
                      refine seq_still (fun K58 hK58 => ?_)
                      refine still_does H rfl (does_move rfl) ?_; clear H a; intro a H
                      refine still_does H rfl (does_neq rfl rfl) ?_; clear H a; intro a H
                      refine wpStill_nil (hK58 _ ?_)
                      clear hK58 K58
                      refine cond_ H rfl (fun hc15 => ?_) (fun hc15 => ?_)
                      · skip
                        exact absurd hc15 (by decide)
                      · skip
                        refine wp_skip ?_
                        refine hK57 _ _ ?_
                        refine wp_seq_k (fun K59 hK59 => ?_)
                        replace H := H.keep [1, 3, 5, 16] rfl
                        refine seq_still (fun K60 hK60 => ?_)
                        refine still_does H rfl (does_assign rfl) ?_; clear H a; intro a H
                        refine wpStill_nil (hK60 _ ?_)
                        clear hK60 K60
                        refine wp_block ?_
                        refine loop_st (X := Int) (R0 := _) [1, 3, 5, 16] H rfl (fun i => [(17, .int .i64 i)]) (fun i => []) (fun g i => -1 ≤ i ∧ i ≤ ((spK (sufP (⟨links, pitch, limit⟩ : Chain) l x1 x2 sl false) l.length).length : Int) ∧ g = ((spK (sufP (⟨links, pitch, limit⟩ : Chain) l x1 x2 sl false) l.length).length - i).toNat) ((spK (sufP (⟨links, pitch, limit⟩ : Chain) l x1 x2 sl false) l.length).length + 1) (-1) ?_ (S.sel [0, 1, 2, 3, 4] rfl rfl) (H.keep [17, 1, 3, 5, 16] rfl) ?_
                        · exact ⟨by omega, by omega, by omega⟩
                        · intro g3 x3 a w3 hp S H K61 hK61
                          obtain ⟨i, rfl⟩ : ∃ y, y = x3 := ⟨_, rfl⟩
                          skip
                          refine wp_seq_k (fun K62 hK62 => ?_)
                          replace H := H.keep [1, 3, 5, 16, 17] rfl
                          refine seq_still (fun K63 hK63 => ?_)
                          refine still_does H rfl (does_move rfl) ?_; clear H a; intro a H
                          refine still_does H rfl (does_move rfl) ?_; clear H a; intro a H
                          refine still_does H rfl (does_len sl_29 rfl) ?_; clear H a; intro a H
                          refine still_does H rfl (does_lss rfl rfl) ?_; clear H a; intro a H
                          refine wpStill_nil (hK63 _ ?_)
                          clear hK63 K63
                          refine cond_ H rfl (fun hc16 => ?_) (fun hc16 => ?_)
                          · try simp only [Bool.or_eq_true, Bool.and_eq_true, Bool.not_eq_true', Bool.or_eq_false_iff, Bool.and_eq_false_iff, Bool.not_eq_false', decide_eq_true_eq, decide_eq_false_iff_not, Int.not_lt, Int.not_le] at hc16
                            refine wp_skip ?_
                            refine hK62 _ _ ?_
                            refine wp_seq_k (fun K64 hK64 => ?_)
                            refine wp_block ?_
                            have hpk := pk_suf (fr := x1) (to := x2) (most := sl) (apart := false) hk (by show x1 < links.toNat + 1; omega) (by show x2 < links.toNat + 1; omega) hY1 (but := i) (by omega)
                            have hkp := check_pk (but := i) hk (ks := spK (sufP (⟨links, pitch, limit⟩ : Chain) l x1 x2 sl false) l.length) (fun k hk => spK_in hk) (spK_len _)
                            have hpl := pk_len (l := l) (ks := spK (sufP (⟨links, pitch, limit⟩ : Chain) l x1 x2 sl false) l.length) (but := i); have hkl := spK_len (suf := (sufP (⟨links, pitch, limit⟩ : Chain) l x1 x2 sl false)) l.length
                            replace H := H.keep [1, 3, 5, 16, 17] rfl
                            refine seq_list (fun K65 hK65 => ?_)
                            refine list_does H rfl (does_move rfl) ?_; clear H a; intro a H
                            refine list_does H rfl (does_move rfl) ?_; clear H a; intro a H
                            refine list_does H rfl (does_move rfl) ?_; clear H a; intro a H
                            refine list_call H rfl rfl Try.func58 rfl rfl (law_picked l A cp (spK (sufP (⟨links, pitch, limit⟩ : Chain) l x1 x2 sl false) l.length) A6 c6 i _ (hl.now S) (ownM.inS S (i := 0) rfl) (fun k hk => spK_in hk) (fun k hk => spK_asc hk) (by omega) (by have := spK_len (suf := (sufP (⟨links, pitch, limit⟩ : Chain) l x1 x2 sl false)) l.length; omega)) ?_; clear H a
                            rintro _ _ a ⟨A8, c8, rfl, S2⟩ H
                            replace S := S.call S2; clear S2
                            refine list_does H rfl (does_move rfl) ?_; clear H a; intro a H
                            refine list_does H rfl (does_extract rfl rfl) ?_; clear H a; intro a H
                            refine list_does H rfl (does_extract rfl rfl) ?_; clear H a; intro a H
                            refine list_does H rfl (does_assign rfl) ?_; clear H a; intro a H
                            refine list_does H rfl (does_assign rfl) ?_; clear H a; intro a H
                            refine hK65 _ _ ?_
                            clear hK65 K65
                            replace H := H.keep [1, 3, 5, 16, 17, 18, 19] rfl
                            refine seq_list (fun K66 hK66 => ?_)
                            refine list_does H rfl (by first | exact does_loadBox agg_23 sz_23 rfl S (i := 0) rfl rfl | exact does_loadBox agg_23 sz_23 rfl S (i := 1) rfl rfl | exact does_loadBox agg_23 sz_23 rfl S (i := 2) rfl rfl | exact does_loadBox agg_23 sz_23 rfl S (i := 3) rfl rfl | exact does_loadBox agg_23 sz_23 rfl S (i := 4) rfl rfl | exact does_loadBox agg_23 sz_23 rfl S (i := 5) rfl rfl) ?_; clear H a; intro a H
                            refine list_does H rfl (does_move rfl) ?_; clear H a; intro a H
                            refine list_does H rfl (by first | exact does_field_pt fo_26_0 rfl | exact does_field fo_26_0 rfl) ?_; clear H a; intro a H
                            refine list_does H rfl (does_load one_3 rfl (by first | exact boxM.rd S (i := 0) rfl rfl | exact boxM.rd S (i := 1) rfl rfl | exact boxM.rd S (i := 2) rfl rfl | exact boxM.rd S (i := 3) rfl rfl | exact boxM.rd S (i := 4) rfl rfl | exact boxM.rd S (i := 5) rfl rfl)) ?_; clear H a; intro a H
                            refine list_does H rfl (by first | exact does_field_pt fo_26_1 rfl | exact does_field fo_26_1 rfl) ?_; clear H a; intro a H
                            refine list_does H rfl (does_load one_3 rfl (by first | exact boxM.rd S (i := 0) rfl rfl | exact boxM.rd S (i := 1) rfl rfl | exact boxM.rd S (i := 2) rfl rfl | exact boxM.rd S (i := 3) rfl rfl | exact boxM.rd S (i := 4) rfl rfl | exact boxM.rd S (i := 5) rfl rfl)) ?_; clear H a; intro a H
                            refine list_call H rfl rfl Try.func28 rfl rfl (chain_Run links pitch limit _ A8 c8 (x1 : Int) (x2 : Int) _ (ownM.inS S (i := 0) rfl) (by omega)) ?_; clear H a
                            rintro _ _ a ⟨rfl, S2⟩ H
                            replace S := S.call S2; clear S2
                            have hbb := run_suf (most := sl) hkp hY0
                            rw [Int.toNat_natCast, Int.toNat_natCast, hpk] at hbb
                            generalize runO (⟨links, pitch, limit⟩ : Chain) (pkL l (spK (sufP (⟨links, pitch, limit⟩ : Chain) l x1 x2 sl false) l.length) i) ((x1 : Nat) : Int) ((x2 : Nat) : Int) = r at H hbb
                            simp only [runV] at H
                            refine list_does H rfl (does_move rfl) ?_; clear H a; intro a H
                            refine list_does H rfl (does_extract rfl rfl) ?_; clear H a; intro a H
                            refine list_does H rfl (does_extract rfl rfl) ?_; clear H a; intro a H
                            refine list_alloc H rfl S ze_42 ?_; clear H a S; intro b20 _ a hb20 hbw20 S H
                            first | (refine list_store H S (i := 0) rfl rfl rfl rfl sz_42 rfl rfl ?_) | (refine list_store H S (i := 1) rfl rfl rfl rfl sz_42 rfl rfl ?_) | (refine list_store H S (i := 2) rfl rfl rfl rfl sz_42 rfl rfl ?_) | (refine list_store H S (i := 3) rfl rfl rfl rfl sz_42 rfl rfl ?_) | (refine list_store H S (i := 4) rfl rfl rfl rfl sz_42 rfl rfl ?_) | (refine list_store H S (i := 5) rfl rfl rfl rfl sz_42 rfl rfl ?_) | (refine list_store H S (i := 6) rfl rfl rfl rfl sz_42 rfl rfl ?_) | (refine list_store_own H S (i := 0) rfl rfl rfl (by omega) (by omega) sz_42 rfl ?_) | (refine list_store_own H S (i := 1) rfl rfl rfl (by omega) (by omega) sz_42 rfl ?_) | (refine list_store_own H S (i := 2) rfl rfl rfl (by omega) (by omega) sz_42 rfl ?_) | (refine list_store_own H S (i := 3) rfl rfl rfl (by omega) (by omega) sz_42 rfl ?_) | (refine list_store_own H S (i := 4) rfl rfl rfl (by omega) (by omega) sz_42 rfl ?_) | (refine list_store_own H S (i := 5) rfl rfl rfl (by omega) (by omega) sz_42 rfl ?_) | (refine list_store_own H S (i := 6) rfl rfl rfl (by omega) (by omega) sz_42 rfl ?_)
                            clear H a S; intro _ a S H
                            refine list_does H rfl (does_assign rfl) ?_; clear H a; intro a H
                            refine hK66 _ _ ?_
                            clear hK66 K66
                            replace H := H.keep [1, 3, 5, 16, 17, 19, 20, 21] rfl
                            refine seq_still (fun K67 hK67 => ?_)
                            refine still_does H rfl (does_move rfl) ?_; clear H a; intro a H
                            refine still_does H rfl (does_not rfl) ?_; clear H a; intro a H
                            refine still_does H rfl (does_move rfl) ?_; clear H a; intro a H
                            apply still_guard (i := 2) (g := 139) (t := 155) (b := false) 16 H rfl rfl (by kernel_rfl) (by kernel_rfl) rfl rfl
                            case h1 =>
                              intro hg3
                              refine still_yes' H rfl rfl (by assumption) ?_
                              refine still_does H rfl (does_move rfl) ?_; intro a H
                              refine still_yes' H rfl rfl (by assumption) ?_
                              refine still_does H rfl (does_eql rfl rfl) ?_; intro a H
                              refine still_yes' H rfl rfl (by assumption) ?_
                              refine still_does H rfl (does_move rfl) ?_; intro a H
                              apply still_guard (i := 5) (g := 142) (t := 151) (b := false) 9 H rfl rfl (by kernel_rfl) (by kernel_rfl) rfl rfl
                              case h1 =>
                                intro hg6
                                refine still_yes' H rfl rfl (by assumption) ?_
                                refine still_does H rfl (does_move rfl) ?_; intro a H
                                refine still_yes' H rfl rfl (by assumption) ?_
                                refine still_does H rfl (does_eql rfl rfl) ?_; intro a H
                                refine still_yes' H rfl rfl (by assumption) ?_
                                refine still_does H rfl (does_move rfl) ?_; intro a H
                                apply still_guard (i := 8) (g := 145) (t := 150) (b := true) 5 H rfl rfl (by kernel_rfl) (by kernel_rfl) rfl rfl
                                case h1 =>
                                  intro hg9
                                  refine still_yes' H rfl rfl (by assumption) ?_
                                  refine still_does H rfl (by first | exact does_field_pt fo_42_1 rfl | exact does_field fo_42_1 rfl) ?_; intro a H
                                  refine still_yes' H rfl rfl (by assumption) ?_
                                  refine still_does H rfl (does_load one_3 rfl (by first | exact boxM.rd S (i := 0) rfl rfl | exact boxM.rd S (i := 1) rfl rfl | exact boxM.rd S (i := 2) rfl rfl | exact boxM.rd S (i := 3) rfl rfl | exact boxM.rd S (i := 4) rfl rfl | exact boxM.rd S (i := 5) rfl rfl | exact boxM.rd S (i := 6) rfl rfl)) ?_; intro a H
                                  refine still_yes' H rfl rfl (by assumption) ?_
                                  refine still_does H rfl (by first | exact does_field_pt fo_26_2 rfl | exact does_field fo_26_2 rfl) ?_; intro a H
                                  refine still_yes' H rfl rfl (by assumption) ?_
                                  refine still_does H rfl (does_load one_3 rfl (by first | exact boxM.rd S (i := 0) rfl rfl | exact boxM.rd S (i := 1) rfl rfl | exact boxM.rd S (i := 2) rfl rfl | exact boxM.rd S (i := 3) rfl rfl | exact boxM.rd S (i := 4) rfl rfl | exact boxM.rd S (i := 5) rfl rfl | exact boxM.rd S (i := 6) rfl rfl)) ?_; intro a H
                                  refine still_yes' H rfl rfl (by assumption) ?_
                                  refine still_does H rfl (does_leq rfl rfl) ?_; intro a H
                                  exact wpStill_nil (H.strip 5 rfl rfl)
                                case k =>
                                  intro a H
                                  refine still_yes' H rfl rfl (by assumption) ?_
                                  refine still_does H rfl (by first | exact does_and rfl rfl rfl | exact does_pick rfl rfl rfl) ?_; intro a H
                                  exact wpStill_nil (H.strip 5 rfl rfl)
                              case k =>
                                intro a H
                                refine still_yes' H rfl rfl (by assumption) ?_
                                refine still_does H rfl (by first | exact does_or rfl rfl rfl | exact does_pick rfl rfl rfl) ?_; intro a H
                                refine still_yes' H rfl rfl (by assumption) ?_
                                refine still_does H rfl (does_move rfl) ?_; intro a H
                                refine still_yes' H rfl rfl (by assumption) ?_
                                refine still_does H rfl (does_lss rfl rfl) ?_; intro a H
                                refine still_yes' H rfl rfl (by assumption) ?_
                                refine still_does H rfl (does_neqb Try.underlying4 rfl rfl) ?_; intro a H
                                exact wpStill_nil (H.strip 8 rfl rfl)
                            case k =>
                              clear H a; intro a H
                              refine still_does H rfl (by first | exact does_or rfl rfl rfl | exact does_pick rfl rfl rfl) ?_; clear H a; intro a H
                              refine wpStill_nil (hK67 _ ?_)
                              clear hK67 K67
                              refine cond_ H rfl (fun hc17 => ?_) (fun hc17 => ?_)
                              · skip
                                exfalso; rw [hbb] at hc17; simp at hc17
                              · skip
                                refine wp_skip ?_
                                refine hK64 _ _ ?_
                                replace H := H.keep [1, 3, 5, 16, 17] rfl
                                refine one_still ?_
                                refine still_does H rfl (does_move rfl) ?_; clear H a; intro a H
                                refine still_does H rfl (does_add rfl rfl (by unfold i64ok; omega)) ?_; clear H a; intro a H
                                refine still_does H rfl (does_assign rfl) ?_; clear H a; intro a H
                                refine wpStill_nil ?_
                                exact hK61 (g3 - 1) (i + 1) a _ (by omega) (⟨by omega, by omega, by omega⟩) (S.sel [2, 3, 4, 5, 6] rfl rfl) (H.keep [17, 1, 3, 5, 16] rfl)
                          · try simp only [Bool.or_eq_true, Bool.and_eq_true, Bool.not_eq_true', Bool.or_eq_false_iff, Bool.and_eq_false_iff, Bool.not_eq_false', decide_eq_true_eq, decide_eq_false_iff_not, Int.not_lt, Int.not_le] at hc16
                            refine wp_exit ?_
                            refine hK59 _ _ ?_
                            replace H := H.keep [] rfl
                            refine seq_list (fun K69 hK69 => ?_)
                            refine list_call H rfl rfl Try.func18 rfl rfl (law_works _) ?_; clear H a
                            rintro _ _ a ⟨rfl, S2⟩ H
                            replace S := S.call S2; clear S2
                            refine list_does H rfl (does_assign rfl) ?_; clear H a; intro a H
                            refine hK69 _ _ ?_
                            clear hK69 K69
                            refine wp_ret ?_
                            refine ret1 (fn := Try.f16) rfl H rfl ?_
                            exact ⟨rfl, (S.sel [] rfl rfl)⟩
              · skip
                exact absurd hc10 (by decide)

end Go.Proofs.Ytlejjfhgfajoiaa
