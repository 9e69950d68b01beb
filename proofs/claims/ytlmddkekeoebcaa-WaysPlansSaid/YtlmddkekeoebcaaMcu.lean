/- Chapter 8: how many can be out is the least that goes across; what this tells. -/
import Derived.Test.YtlmddkekeoebcaaBar
namespace Go.Proofs.Ytlmddkekeoebcaa
set_option linter.unusedVariables false
set_option linter.unusedSimpArgs false

section
variable {P T : Nat} {ps : List Psg} {xs : List Int} {out : Int} {pe pe' bl : List Int}
def PeOk (pe : List Int) : Prop := ∀ k, k < pe.length → 0 ≤ pe.getD k 0 ∧ pe.getD k 0 ≤ 1000
def cutC (U : Nat → Nat → Bool) (P T : Nat) (ps : List Psg) (xs : List Int) (out : Int) (pe : List Int) : Int := begC U pe P + headC U T xs out ps
/-- The set of nodes of a family. -/
def setP (P T : Nat) (U : Nat → Nat → Bool) (n : Nat) : Bool := if n < P * (T + 1) then U (n % P) (n / P) else decide (n = P * (T + 1))
theorem setP_nd {U : Nat → Nat → Bool} {p t : Nat} (hp : p < P) (ht : t ≤ T) : onP P (setP P T U) p t = U p t := by
  unfold onP setP
  rw [if_pos (nd_lt ht hp)]
  have h1 : nd P t p % P = p := by unfold nd; rw [Nat.mul_add_mod, Nat.mod_eq_of_lt hp]
  have h2 : nd P t p / P = t := by unfold nd; rw [Nat.mul_add_div (by omega), Nat.div_eq_of_lt hp]; rfl
  rw [h1, h2]
theorem mfv_le (V : StV P ps xs) (ho : 0 ≤ out) (hpe : PeOk pe) {U : Nat → Nat → Bool} (hU : Tight U P T xs) : mfv P T pe xs (hds out xs ps) ≤ cutC U P T ps xs out pe := by
  have OP := lay_ok (T := T) (out := out) V hpe
  obtain ⟨v, r, L, h⟩ := endP_ex OP
  rw [mfv_eq OP h]
  have hb : setP P T U (P * (T + 1)) = true := by unfold setP; rw [if_neg (by omega)]; simp
  have hx : setP P T U (P * (T + 1) + 1) = false := by unfold setP; rw [if_neg (by omega)]; simp
  have hpe' : ∀ p, p < P → 0 ≤ pe.getD p 0 := fun p _ => by
    by_cases h : p < pe.length
    · exact (hpe p h).1
    · rw [List.getD_eq_getElem?_getD, List.getElem?_eq_none (by omega)]; simp
  have hc := (cap_P (T := T) V ho hpe' hb hx).1 (tight_congr (fun p hp t ht => (setP_nd hp ht).symm) hU)
  have hle := EndP.bound OP h hb hx
  rw [hc, begC_congr (fun p hp t ht => setP_nd hp ht), headC_congr V (fun p hp t ht => setP_nd hp ht)] at hle
  exact hle
/-- What can be reached, by places and ticks. -/
theorem mfv_at (V : StV P ps xs) (ho : 0 ≤ out) (hpe : PeOk pe) {v : Int} {r : RM} {L : Nat → Int} (h : EndP P T pe xs (hds out xs ps) v r L) : Tight (onP P (reached L)) P T xs ∧ v = cutC (onP P (reached L)) P T ps xs out pe := by
  have OP := lay_ok (T := T) (out := out) V hpe
  obtain ⟨b1, b2, b3⟩ := h.at_reach OP
  have hpe' : ∀ p, p < P → 0 ≤ pe.getD p 0 := fun p _ => by
    by_cases h : p < pe.length
    · exact (hpe p h).1
    · rw [List.getD_eq_getElem?_getD, List.getElem?_eq_none (by omega)]; simp
  have hc := cap_P (T := T) V ho hpe' b1 b2
  have hv' : v ≤ 10000 := by
    have h1 := EndP.bound OP h (S := fun v => decide (v = P * (T + 1))) (by simp) (by simp)
    have h2 := cap_begin (P := P) (T := T) (xs := xs) (pe := pe) hpe (hds_ok (out := out) V)
    have := V.size
    omega
  have ht : Tight (onP P (reached L)) P T xs := by
    refine Classical.byContradiction fun hn => ?_
    have := hc.2 hn
    rw [b3] at this
    unfold farI at this
    omega
  exact ⟨ht, by rw [← b3]; exact hc.1 ht⟩
theorem mfv_cut (V : StV P ps xs) (ho : 0 ≤ out) (hpe : PeOk pe) : ∃ U, Tight U P T xs ∧ mfv P T pe xs (hds out xs ps) = cutC U P T ps xs out pe := by
  have OP := lay_ok (T := T) (out := out) V hpe
  obtain ⟨v, r, L, h⟩ := endP_ex OP
  obtain ⟨h1, h2⟩ := mfv_at V ho hpe h
  exact ⟨_, h1, by rw [mfv_eq OP h]; exact h2⟩
theorem pC_nn (V : StV P ps xs) {U : Nat → Nat → Bool} {i : Nat} (hi : i < ps.length) {t k : Nat} : 0 ≤ pC U T xs out (ps.getD i Psg.zero) t k := by
  have := psgOk_iff.1 (V.pas i hi)
  unfold pC hC
  split
  · split <;> omega
  · omega
theorem headC_nn (V : StV P ps xs) {U : Nat → Nat → Bool} : 0 ≤ headC U T xs out ps := sm_nonneg fun t _ => sm_nonneg fun i hi => by
  have h0 := pC_nn (T := T) (out := out) (U := U) V hi (t := t) (k := 0)
  have h1 := pC_nn (T := T) (out := out) (U := U) V hi (t := t) (k := 1)
  omega
theorem getD_nn (hpe : PeOk pe) (p : Nat) : 0 ≤ pe.getD p 0 ∧ pe.getD p 0 ≤ 1000 := by
  by_cases h : p < pe.length
  · exact hpe p h
  · rw [List.getD_eq_getElem?_getD, List.getElem?_eq_none (by omega)]; simp
/-- Those whose places a family holds from the first tick on. -/
def begI (U : Nat → Nat → Bool) (pe : List Int) (P : Nat) : Int := sm (fun p => if U p 0 = true then pe.getD p 0 else 0) P
theorem begC_split {U : Nat → Nat → Bool} : begC U pe P + begI U pe P = sumI pe P := by
  unfold begC begI sumI
  rw [← sm_add]
  refine sm_congr fun p _ => ?_
  cases U p 0 <;> simp
theorem begI_mono {U : Nat → Nat → Bool} (h : ∀ p, p < P → pe.getD p 0 ≤ pe'.getD p 0) : begI U pe P ≤ begI U pe' P := sm_le fun p hp => by
  have := h p hp
  split <;> omega
theorem begC_mono {U : Nat → Nat → Bool} (h : ∀ p, p < P → pe.getD p 0 ≤ pe'.getD p 0) : begC U pe P ≤ begC U pe' P := sm_le fun p hp => by
  have := h p hp
  split <;> omega
theorem mfv_nn (V : StV P ps xs) (ho : 0 ≤ out) (hpe : PeOk pe) : 0 ≤ mfv P T pe xs (hds out xs ps) := by
  have OP := lay_ok (T := T) (out := out) V hpe
  obtain ⟨v, r, L, h⟩ := endP_ex OP
  rw [mfv_eq OP h]; exact h.nn
/-- At most everybody. -/
theorem mfv_all (V : StV P ps xs) (ho : 0 ≤ out) (hpe : PeOk pe) : mfv P T pe xs (hds out xs ps) ≤ sumI pe P := by
  have h := mfv_le (T := T) (U := fun _ _ => false) V ho hpe (fun p _ => ⟨fun _ _ _ => rfl, fun _ _ _ h => by cases h⟩)
  have hz : headC (fun _ _ => false) T xs out ps = 0 := sm_zero fun t _ => sm_zero fun i _ => by
    have key : ∀ k, pC (fun _ _ => false) T xs out (ps.getD i Psg.zero) t k = 0 := fun k => by
      unfold pC hC
      split
      · exact if_neg (fun h => by cases h.2.1)
      · rfl
    rw [key 0, key 1]; rfl
  unfold cutC at h
  rw [hz] at h
  have e : begC (fun _ _ => false) pe P = sumI pe P := sm_congr fun p _ => by simp
  omega
/-- More ticks. -/
theorem mfv_tick (V : StV P ps xs) (ho : 0 ≤ out) (hpe : PeOk pe) : mfv P T pe xs (hds out xs ps) ≤ mfv P (T + 1) pe xs (hds out xs ps) := by
  obtain ⟨U, hU, e⟩ := mfv_cut (T := T + 1) V ho hpe
  rw [e]
  refine Int.le_trans (mfv_le (T := T) (U := U) V ho hpe fun p hp => ⟨fun he t ht => (hU p hp).1 he t (by omega), fun he t ht h => (hU p hp).2 he t (by omega) h⟩) ?_
  unfold cutC
  have h1 : headC U T xs out ps ≤ headC U (T + 1) xs out ps := by
    have h2 : headC U (T + 1) xs out ps = sm (fun t => sm (fun i => pC U (T + 1) xs out (ps.getD i Psg.zero) t 0 + pC U (T + 1) xs out (ps.getD i Psg.zero) t 1) ps.length) (T + 1) + sm (fun i => pC U (T + 1) xs out (ps.getD i Psg.zero) (T + 1) 0 + pC U (T + 1) xs out (ps.getD i Psg.zero) (T + 1) 1) ps.length := rfl
    have h3 := sm_nonneg (f := fun i => pC U (T + 1) xs out (ps.getD i Psg.zero) (T + 1) 0 + pC U (T + 1) xs out (ps.getD i Psg.zero) (T + 1) 1) (n := ps.length) (fun i hi => by
      have h0 := pC_nn (T := T + 1) (out := out) (U := U) V hi (t := T + 1) (k := 0)
      have h1 := pC_nn (T := T + 1) (out := out) (U := U) V hi (t := T + 1) (k := 1)
      omega)
    have h4 : headC U T xs out ps ≤ sm (fun t => sm (fun i => pC U (T + 1) xs out (ps.getD i Psg.zero) t 0 + pC U (T + 1) xs out (ps.getD i Psg.zero) t 1) ps.length) (T + 1) := sm_le fun t _ => sm_le fun i hi => by
      have hp := psgOk_iff.1 (V.pas i hi)
      have key : ∀ k, pC U T xs out (ps.getD i Psg.zero) t k ≤ pC U (T + 1) xs out (ps.getD i Psg.zero) t k := fun k => by
        unfold pC
        split
        · unfold hC
          by_cases h5 : (t : Int) + goneI out (ps.getD i Psg.zero) (endI (ps.getD i Psg.zero) k) ≤ (T : Int) ∧ U (endI (ps.getD i Psg.zero) k).toNat t = true ∧ U (endI (ps.getD i Psg.zero) (1 - k)).toNat (t + (goneI out (ps.getD i Psg.zero) (endI (ps.getD i Psg.zero) k)).toNat) = false
          · rw [if_pos h5, if_pos ⟨by push_cast; omega, h5.2⟩]; omega
          · rw [if_neg h5]; split <;> omega
        · omega
      have h0 := key 0
      have h1 := key 1
      omega
    omega
  omega
/-- More people. -/
theorem mfv_people (V : StV P ps xs) (ho : 0 ≤ out) (hpe : PeOk pe) (hpe' : PeOk pe') (h : ∀ p, p < P → pe.getD p 0 ≤ pe'.getD p 0) : mfv P T pe xs (hds out xs ps) ≤ mfv P T pe' xs (hds out xs ps) := by
  obtain ⟨U, hU, e⟩ := mfv_cut (T := T) V ho hpe'
  rw [e]
  have h1 := mfv_le (T := T) V ho hpe hU
  have h2 := begC_mono (U := U) h
  unfold cutC at h1 ⊢
  omega
/-- If all can be out, they can with fewer people. -/
theorem mfv_fewer (V : StV P ps xs) (ho : 0 ≤ out) (hpe : PeOk pe) (hpe' : PeOk pe') (h : ∀ p, p < P → pe.getD p 0 ≤ pe'.getD p 0) (ha : mfv P T pe' xs (hds out xs ps) = sumI pe' P) : mfv P T pe xs (hds out xs ps) = sumI pe P := by
  obtain ⟨U, hU, e⟩ := mfv_cut (T := T) V ho hpe
  have h1 := mfv_le (T := T) V ho hpe' hU
  have h2 := begI_mono (U := U) h
  have h3 := begC_split (U := U) (pe := pe) (P := P)
  have h4 := begC_split (U := U) (pe := pe') (P := P)
  have h5 := mfv_all (T := T) V ho hpe
  unfold cutC at h1 e
  omega
/-! ## barriers -/
theorem bar_tight (hb : barOk P T xs bl = true) : Tight (barU bl) P T xs := fun p hp => by
  obtain ⟨hl, hk⟩ := barOk_ok hb
  have h1 := hk p (by omega)
  refine ⟨fun he t ht => decide_eq_false ?_, fun _ t ht h2 => decide_eq_true ?_⟩
  · have := h1.2 he; omega
  · have := of_decide_eq_true h2; push_cast; omega
theorem bar_bound (V : StV P ps xs) (ho : 0 ≤ out) (hpe : PeOk pe) (hb : barOk P T xs bl = true) : mfv P T pe xs (hds out xs ps) ≤ bndV P T ps xs out pe bl := mfv_le V ho hpe (bar_tight hb)
/-- The least barrier, as a list. -/
noncomputable def cutL (P T : Nat) (pe xs : List Int) (hs : List Hd) : List Int := (List.range P).map fun p => ((mfc P T pe xs hs p : Nat) : Int)
theorem cutL_len {hs : List Hd} : (cutL P T pe xs hs).length = P := by unfold cutL; rw [List.length_map, List.length_range]
theorem cutL_at {hs : List Hd} {p : Nat} (hp : p < P) : (cutL P T pe xs hs).getD p 0 = ((mfc P T pe xs hs p : Nat) : Int) := by
  unfold cutL
  rw [List.getD_eq_getElem?_getD, List.getElem?_map, List.getElem?_range hp]; rfl
theorem fst_lt {f : Nat → Bool} {q : Nat} (hf : f q = true) : ∀ {n}, q < n → fstB f n < n := by
  intro n
  induction n with
  | zero => intro h; omega
  | succ n ih =>
    intro h
    rw [fstB]
    by_cases h1 : fstB f n < n
    · rw [if_pos h1]; omega
    · rw [if_neg h1]
      by_cases e : q = n
      · subst e; rw [if_pos hf]; omega
      · exact absurd (ih (by omega)) h1
theorem fst_yes {f : Nat → Bool} : ∀ {n}, fstB f n < n → f (fstB f n) = true ∧ ∀ q, q < fstB f n → f q = false := by
  intro n
  induction n with
  | zero => intro h; omega
  | succ n ih =>
    intro h
    by_cases h1 : fstB f n < n
    · have e : fstB f (n + 1) = fstB f n := by rw [fstB, if_pos h1]
      rw [e]; exact ih h1
    · have hn : ∀ q, q < n → f q = false := fun q hq => by
        cases hb : f q with
        | false => rfl
        | true =>
          exfalso
          exact h1 (fst_lt hb hq)
      have e : fstB f n = n := fst_none hn
      by_cases hf : f n = true
      · have e2 : fstB f (n + 1) = n := by rw [fstB, if_neg (by omega), if_pos hf]
        rw [e2]; exact ⟨hf, hn⟩
      · have e2 : fstB f (n + 1) = n + 1 := by rw [fstB, if_neg (by omega), if_neg hf]
        omega
theorem cut_on (V : StV P ps xs) (ho : 0 ≤ out) (hpe : PeOk pe) {v : Int} {r : RM} {L : Nat → Int} (h : EndP P T pe xs (hds out xs ps) v r L) {p t : Nat} (hp : p < P) (ht : t ≤ T) : barU (cutL P T pe xs (hds out xs ps)) p t = onP P (reached L) p t := by
  have OP := lay_ok (T := T) (out := out) V hpe
  have hT := (mfv_at V ho hpe h).1 p hp
  unfold barU
  rw [cutL_at hp, mfc_eq OP h hp]
  unfold cutAt
  have hle := fst_le (f := fun t => decide (0 ≤ L (nd P t p))) (T + 1)
  have hf := fst_yes (f := fun t => decide (0 ≤ L (nd P t p))) (n := T + 1)
  generalize hm : fstB (fun t => decide (0 ≤ L (nd P t p))) (T + 1) = m at hle hf
  by_cases hx : hasI xs p = true
  · have h1 := hT.1 hx t ht
    rw [h1]
    refine decide_eq_false fun hle2 => ?_
    have h2 := (hf (by omega)).1
    have h3 := hT.1 hx m (by omega)
    unfold onP reached at h3
    rw [h3] at h2; cases h2
  · have hx' : hasI xs p = false := by simpa using hx
    by_cases hmt : m ≤ t
    · have h2 := (hf (by omega)).1
      have up : ∀ d, m + d ≤ T → onP P (reached L) p (m + d) = true := by
        intro d
        induction d with
        | zero => intro _; exact h2
        | succ d ih => intro hd; exact hT.2 hx' (m + d) (by omega) (ih (by omega))
      have h3 := up (t - m) (by omega)
      rw [show m + (t - m) = t by omega] at h3
      rw [h3]
      exact decide_eq_true (by omega)
    · have h4 : onP P (reached L) p t = false := by
        by_cases hmT : m < T + 1
        · exact (hf hmT).2 t (by omega)
        · cases hb : onP P (reached L) p t with
          | false => rfl
          | true =>
            exfalso
            have := fst_lt (f := fun t => decide (0 ≤ L (nd P t p))) (q := t) hb (show t < T + 1 by omega)
            omega
      rw [h4]
      exact decide_eq_false (by omega)
theorem cut_bar (V : StV P ps xs) (ho : 0 ≤ out) (hpe : PeOk pe) : barOk P T xs (cutL P T pe xs (hds out xs ps)) = true ∧ bndV P T ps xs out pe (cutL P T pe xs (hds out xs ps)) = mfv P T pe xs (hds out xs ps) := by
  have OP := lay_ok (T := T) (out := out) V hpe
  obtain ⟨v, r, L, h⟩ := endP_ex OP
  have hat := mfv_at V ho hpe h
  refine ⟨bar_all (by rw [cutL_len]) (allN_iff.2 fun k hk => ?_), ?_⟩
  · rw [cutL_len] at hk
    have hm : mfc P T pe xs (hds out xs ps) k ≤ T + 1 := by rw [mfc_eq OP h hk]; exact fst_le _
    refine barAt_t ⟨by rw [cutL_at hk]; omega, fun hx => ?_⟩
    rw [cutL_at hk]
    refine Classical.byContradiction fun hne => ?_
    have h1 := cut_on V ho hpe h hk (t := mfc P T pe xs (hds out xs ps) k) (by omega)
    rw [(hat.1 k hk).1 hx _ (by omega)] at h1
    unfold barU at h1
    rw [cutL_at hk] at h1
    have := of_decide_eq_false h1
    omega
  · unfold bndV
    rw [begC_congr (fun p hp t ht => cut_on V ho hpe h hp ht), headC_congr V (fun p hp t ht => cut_on V ho hpe h hp ht), mfv_eq OP h]
    exact hat.2.symm
/-- A barrier with the least bound does not open later anywhere. -/
theorem cut_least (V : StV P ps xs) (ho : 0 ≤ out) (hpe : PeOk pe) (hb : barOk P T xs bl = true) (he : bndV P T ps xs out pe bl = mfv P T pe xs (hds out xs ps)) {p : Nat} (hp : p < P) : bl.getD p 0 ≤ (cutL P T pe xs (hds out xs ps)).getD p 0 := by
  have OP := lay_ok (T := T) (out := out) V hpe
  obtain ⟨v, r, L, h⟩ := endP_ex OP
  obtain ⟨hl, hk⟩ := barOk_ok hb
  have hm : mfc P T pe xs (hds out xs ps) p ≤ T + 1 := by rw [mfc_eq OP h hp]; exact fst_le _
  rw [cutL_at hp]
  have h0 := hk p (by omega)
  by_cases hmT : mfc P T pe xs (hds out xs ps) p = T + 1
  · rw [hmT]; push_cast; omega
  · have h1 : onP P (reached L) p (mfc P T pe xs (hds out xs ps) p) = true := by
      rw [← cut_on V ho hpe h hp (by omega)]
      unfold barU
      rw [cutL_at hp]
      exact decide_eq_true (Int.le_refl _)
    have hb1 : setP P T (barU bl) (P * (T + 1)) = true := by unfold setP; rw [if_neg (by omega)]; simp
    have hx1 : setP P T (barU bl) (P * (T + 1) + 1) = false := by unfold setP; rw [if_neg (by omega)]; simp
    have hpe' : ∀ p, p < P → 0 ≤ pe.getD p 0 := fun p _ => (getD_nn hpe p).1
    have hc := (cap_P (T := T) V ho hpe' hb1 hx1).1 (tight_congr (fun p hp t ht => (setP_nd hp ht).symm) (bar_tight hb))
    rw [begC_congr (fun p hp t ht => setP_nd hp ht), headC_congr V (fun p hp t ht => setP_nd hp ht)] at hc
    have hv := mfv_eq OP h
    have h2 := h.inside OP hb1 hx1 (by rw [hc]; exact (show begC (barU bl) pe P + headC (barU bl) T xs out ps = v by unfold bndV at he; omega)) (nd P (mfc P T pe xs (hds out xs ps) p) p) (by have := nd_lt (P := P) (T := T) (t := mfc P T pe xs (hds out xs ps) p) (p := p) (by omega) hp; omega) (by unfold onP reached at h1; simpa using h1)
    have h3 := setP_nd (U := barU bl) hp (show mfc P T pe xs (hds out xs ps) p ≤ T by omega)
    unfold onP at h3
    rw [h2] at h3
    unfold barU at h3
    have := of_decide_eq_true h3.symm
    omega
end
end Go.Proofs.Ytlmddkekeoebcaa
