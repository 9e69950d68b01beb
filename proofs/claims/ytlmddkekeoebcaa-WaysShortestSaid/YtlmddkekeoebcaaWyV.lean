/- Chapter 8: ways without steps: what is answered, and laws on ways. -/
import Derived.Test.YtlmddkekeoebcaaFar
import Derived.Test.YtlmddkekeoebcaaBit
namespace Go.Proofs.Ytlmddkekeoebcaa
set_option linter.unusedVariables false
set_option linter.unusedSimpArgs false

theorem rv_nn {x : Int} (h : 0 ≤ x) : rv x = x := by unfold rv; rw [if_neg (by omega)]
theorem wy3 (o : Int) (b : Bool) : o < 0 ∨ (0 ≤ o ∧ b = false) ∨ (0 ≤ o ∧ b = true) := by
  by_cases h : o < 0
  · exact .inl h
  · cases b
    · exact .inr (.inl ⟨by omega, rfl⟩)
    · exact .inr (.inr ⟨by omega, rfl⟩)
section
variable {ps : List Psg} {out : Int} {help : Bool} {d : Nat → Int} {p : Nat} {k : Nat}
theorem oth_opn {q : Psg} {a : Int} (h : opn out help q = true) : oth out help q a = othr q a := by unfold oth; rw [if_neg (by rw [h]; simp)]
theorem oth_shut {q : Psg} {a : Int} (h : opn out help q = false) : oth out help q a = -1 := by unfold oth; rw [if_pos h]
theorem step_no {h : oth out help (ps.getD k Psg.zero) p < 0} : stepB ps out help d p k = false := by
  unfold stepB; rw [decide_eq_false (by omega)]; rfl
theorem step_no1 (h : othr (ps.getD k Psg.zero) p < 0) : stepB ps out help d p k = false := step_no (h := by
  unfold oth; split
  · omega
  · exact h)
theorem step_no2 (h : opn out help (ps.getD k Psg.zero) = false) : stepB ps out help d p k = false := step_no (h := by rw [oth_shut h]; omega)
theorem step_rv (ho : opn out help (ps.getD k Psg.zero) = true) (h0 : 0 ≤ othr (ps.getD k Psg.zero) p) (hx : d (othr (ps.getD k Psg.zero) p).toNat ≤ 200) (hp : 0 ≤ d p ∧ d p ≤ 200) (ht : 1 ≤ (ps.getD k Psg.zero).ticks ∧ (ps.getD k Psg.zero).ticks ≤ 20)
    (h : rv (d (othr (ps.getD k Psg.zero) p).toNat) + (ps.getD k Psg.zero).ticks = rv (d p)) : stepB ps out help d p k = true := by
  rw [rv_nn hp.1] at h
  have : 0 ≤ d (othr (ps.getD k Psg.zero) p).toNat := by
    unfold rv at h
    split at h
    · omega
    · omega
  rw [rv_nn this] at h
  unfold stepB
  rw [oth_opn ho]
  simp only [Bool.and_eq_true, decide_eq_true_eq]
  exact ⟨h0, this, h⟩
theorem step_no3 (ho : opn out help (ps.getD k Psg.zero) = true) (h0 : 0 ≤ othr (ps.getD k Psg.zero) p) (hp : 0 ≤ d p)
    (h : ¬ rv (d (othr (ps.getD k Psg.zero) p).toNat) + (ps.getD k Psg.zero).ticks = rv (d p)) : stepB ps out help d p k = false := by
  rw [rv_nn hp] at h
  unfold stepB
  rw [oth_opn ho]
  by_cases h1 : 0 ≤ d (othr (ps.getD k Psg.zero) p).toNat
  · rw [rv_nn h1] at h
    rw [decide_eq_false (p := d (othr (ps.getD k Psg.zero) p).toNat + (ps.getD k Psg.zero).ticks = d p) h, Bool.and_false, Bool.and_false]
  · rw [decide_eq_false h1, Bool.false_and, Bool.and_false]
end

/-! ## machines of a kind -/
def machB (ps : List Psg) (out kind : Int) (m i : Nat) : Bool := (decide ((ps.getD i Psg.zero).kind = kind) && decide ((ps.getD i Psg.zero).mach = (m : Int))) && !decide (out / 2 ^ m % 2 = 1)
def machR (ps : List Psg) (out kind : Int) (m : Nat) : Nat → List Nat
  | 0 => []
  | i + 1 => machR ps out kind m i ++ (if machB ps out kind m i = true then [m] else [])
def machL (ps : List Psg) (out kind : Int) : Nat → List Nat
  | 0 => []
  | m + 1 => machL ps out kind m ++ machR ps out kind m ps.length
section
variable {ps : List Psg} {out kind : Int}
theorem machR_len {m : Nat} : ∀ i, (machR ps out kind m i).length ≤ i := by
  intro i
  induction i with
  | zero => exact Nat.le_refl 0
  | succ i ih => rw [machR, List.length_append]; split <;> simp <;> omega
theorem machL_len (h : ps.length ≤ 24) : ∀ m, (machL ps out kind m).length ≤ 24 * m := by
  intro m
  induction m with
  | zero => exact Nat.le_refl 0
  | succ m ih => rw [machL, List.length_append]; have := machR_len (ps := ps) (out := out) (kind := kind) (m := m) ps.length; omega
theorem machR_yes {m i : Nat} {wl : List Nat} (h : wl = machL ps out kind m ++ machR ps out kind m i) (hb : machB ps out kind m i = true) : wl ++ [m] = machL ps out kind m ++ machR ps out kind m (i + 1) := by
  rw [machR, if_pos hb, h, List.append_assoc]
theorem machR_no {m i : Nat} {wl : List Nat} (h : wl = machL ps out kind m ++ machR ps out kind m i) (hb : machB ps out kind m i = false) : wl = machL ps out kind m ++ machR ps out kind m (i + 1) := by
  rw [machR, if_neg (by rw [hb]; simp), h, List.append_nil]
theorem machB_t {m i : Nat} (h : ((ps.getD i Psg.zero).kind = kind ∧ (ps.getD i Psg.zero).mach = (m : Int)) ∧ ¬ out / 2 ^ m % 2 = 1) : machB ps out kind m i = true := by
  unfold machB; rw [decide_eq_true h.1.1, decide_eq_true h.1.2, decide_eq_false h.2]; rfl
theorem machB_f {m i : Nat} (h : (¬ (ps.getD i Psg.zero).kind = kind ∨ ¬ (ps.getD i Psg.zero).mach = (m : Int)) ∨ out / 2 ^ m % 2 = 1) : machB ps out kind m i = false := by
  unfold machB
  rcases h with (h | h) | h
  · rw [decide_eq_false h]; rfl
  · rw [decide_eq_false h, Bool.and_false, Bool.false_and]
  · rw [decide_eq_true h]; simp
theorem machR_nil {m : Nat} : ∀ {n}, (∀ i, i < n → machB ps out kind m i = false) → machR ps out kind m n = [] := by
  intro n
  induction n with
  | zero => intro _; rfl
  | succ n ih => intro h; rw [machR, ih (fun i hi => h i (by omega)), if_neg (by rw [h n (by omega)]; simp)]; rfl
theorem machR_one {m i : Nat} (hb : machB ps out kind m i = true) : ∀ {n}, i < n → (∀ j, j < n → j ≠ i → machB ps out kind m j = false) → machR ps out kind m n = [m] := by
  intro n
  induction n with
  | zero => intro h; omega
  | succ n ih =>
    intro hi h
    rw [machR]
    by_cases e : i = n
    · subst e
      rw [machR_nil (fun j hj => h j (by omega) (by omega)), if_pos hb]
      rfl
    · rw [ih (by omega) (fun j hj => h j (by omega)), if_neg (by rw [h n (by omega) (by omega)]; simp)]
      rfl
end
theorem bit_other {o m n : Nat} (h : o / 2 ^ n % 2 = 0) (hmn : m ≠ n) : (o + 2 ^ n) / 2 ^ m % 2 = o / 2 ^ m % 2 := by
  rw [← nat_or h]
  have h1 : Nat.testBit (o ||| 2 ^ n) m = Nat.testBit o m := by rw [Nat.testBit_or, Nat.testBit_two_pow_of_ne (fun e => hmn e.symm), Bool.or_false]
  rw [Nat.testBit_eq_decide_div_mod_eq, Nat.testBit_eq_decide_div_mod_eq, decide_eq_decide] at h1
  omega
theorem bit_otherI {out : Int} {m n : Nat} (ho : 0 ≤ out) (h : out / 2 ^ n % 2 = 0) (hmn : m ≠ n) : (out + 2 ^ n) / 2 ^ m % 2 = out / 2 ^ m % 2 := by
  obtain ⟨o, rfl⟩ := Int.eq_ofNat_of_zero_le ho
  have h1 : o / 2 ^ n % 2 = 0 := by
    have h2 : ((o / 2 ^ n % 2 : Nat) : Int) = 0 := by push_cast; exact h
    omega
  have h3 := bit_other h1 hmn
  have h4 : (((o + 2 ^ n) / 2 ^ m % 2 : Nat) : Int) = ((o / 2 ^ m % 2 : Nat) : Int) := by rw [h3]
  push_cast at h4
  exact h4
theorem bit_self {out : Int} {n : Nat} (ho : 0 ≤ out) (h : out / 2 ^ n % 2 = 0) : (out + 2 ^ n) / 2 ^ n % 2 = 1 := by
  have : (2 : Int) ^ n ≠ 0 := Int.ne_of_gt (Int.pow_pos (by decide))
  rw [Int.add_ediv_of_dvd_right (Int.dvd_refl _), Int.ediv_self this]
  omega
/-- A way stays one where no passage that was open is shut. -/
theorem Wk.mono' {ps : List Psg} {out out' : Int} {help help' : Bool} {a c n : Nat} {l : List Nat} (W : Wk ps out help a c n l) : (∀ k, k ∈ l → k < ps.length → opn out help (ps.getD k Psg.zero) = true → opn out' help' (ps.getD k Psg.zero) = true) → Wk ps out' help' a c n l := by
  induction W with
  | nil a => exact fun _ => .nil a
  | @cons a b c n k l hk ho _ ih =>
    intro h
    have ho1 : opn out help (ps.getD k Psg.zero) = true := by
      cases hb : opn out help (ps.getD k Psg.zero) with
      | true => rfl
      | false => rw [oth_shut hb] at ho; omega
    refine .cons hk ?_ (ih fun q hq => h q (List.mem_cons_of_mem _ hq))
    rw [oth_opn (h k (List.mem_cons_self ..) hk ho1), ← oth_opn ho1]
    exact ho
theorem Wk.mono {ps : List Psg} {out out' : Int} {help help' : Bool} (h : ∀ k, k < ps.length → opn out help (ps.getD k Psg.zero) = true → opn out' help' (ps.getD k Psg.zero) = true) {a c n : Nat} {l : List Nat} (W : Wk ps out help a c n l) : Wk ps out' help' a c n l := W.mono' fun k _ => h k
/-- There is a table of how far it is. -/
theorem far_ex {P : Nat} {ps : List Psg} {out : Int} {help : Bool} {to : Nat} (V : PsV P ps) (hP : P ≤ 10) (hto : to < P) : ∃ tk, FarOk P ps out help to tk := by
  have key : ∀ (n : Nat) (tk : Nat → Int), FarI P ps out help to tk → potF P tk ≤ n → ∃ tk, FarOk P ps out help to tk := by
    intro n
    induction n with
    | zero =>
      intro tk I hn
      by_cases h : ∀ i, i < P → ∀ k, k < ps.length → FixAt ps out help tk i k
      · exact ⟨tk, I.done hP h⟩
      · exfalso
        apply h
        intro i hi k hk b hb h0
        have hb2 := (oth_in V hk (a := (i : Int)) (by rw [hb]; omega)).2.1
        rw [hb] at hb2
        refine Classical.byContradiction fun hx => ?_
        have := (I.step V hP hi (b := b) (by omega) hk hb h0 (by omega)).2
        have := potF_nn (P := P) (tk := upd tk i (tk b + (ps.getD k Psg.zero).ticks))
        omega
    | succ n ih =>
      intro tk I hn
      by_cases h : ∀ i, i < P → ∀ k, k < ps.length → FixAt ps out help tk i k
      · exact ⟨tk, I.done hP h⟩
      · refine Classical.byContradiction fun hne => h ?_
        intro i hi k hk b hb h0
        have hb2 := (oth_in V hk (a := (i : Int)) (by rw [hb]; omega)).2.1
        rw [hb] at hb2
        refine Classical.byContradiction fun hx => ?_
        have h2 := I.step V hP hi (b := b) (by omega) hk hb h0 (by omega)
        exact hne (ih _ h2.1 (by omega))
  exact key (potF P (tk0 to)).toNat _ (FarI.init hto) (by have := potF_nn (P := P) (tk := tk0 to); omega)
theorem far_ok {P : Nat} {ps : List Psg} {out : Int} {help : Bool} {to : Nat} (V : PsV P ps) (hP : P ≤ 10) (hto : to < P) : FarOk P ps out help to (dst P ps out help to) := by
  obtain ⟨tk, h⟩ := far_ex (out := out) (help := help) V hP hto
  exact dst_ok V hto h
theorem opn_out {P : Nat} {ps : List Psg} {xs : List Int} {out : Int} {help : Bool} {m k : Nat} (V : StV P ps xs) (ho : 0 ≤ out) (hb : out / 2 ^ m % 2 = 0) (hk : k < ps.length) (hm : ¬ ((ps.getD k Psg.zero).kind = 4 ∧ (ps.getD k Psg.zero).mach = (m : Int))) (h : opn out help (ps.getD k Psg.zero) = true) : opn (out + 2 ^ m) help (ps.getD k Psg.zero) = true := by
  have hp := psgOk_iff.1 (V.pas k hk)
  unfold opn at h ⊢
  simp only [Bool.or_eq_true, Bool.and_eq_true, decide_eq_true_eq] at h ⊢
  rcases h with (h | h) | h
  · exact .inl (.inl h)
  · refine .inl (.inr ⟨h.1, ?_⟩)
    have h2 := h.2
    unfold bitI at h2 ⊢
    rw [bit_otherI ho hb (by intro e; apply hm; refine ⟨h.1, ?_⟩; omega)]
    exact h2
  · exact .inr h
/-- The machines that each way needs are those of lifts without which there is none. -/
theorem need_same {P : Nat} {ps : List Psg} {xs : List Int} {out : Int} {help : Bool} {fr to : Nat} (V : StV P ps xs) (ho : 0 ≤ out) (hto : to < P) (hfr : fr < P) (hd : 0 ≤ dst P ps out help to fr) :
    ∀ n, n ≤ 12 → (machL ps out 4 n).filter (fun m => decide (dst P ps (out + 2 ^ m) help to fr < 0)) = needL P ps out help fr to n := by
  intro n
  induction n with
  | zero => intro _; rfl
  | succ n ih =>
    intro hn
    rw [machL, List.filter_append, ih (by omega), needL]
    congr 1
    unfold bitI
    rw [Int.toNat_natCast]
    by_cases hb : out / 2 ^ n % 2 = 0
    · by_cases he : ∃ i, i < ps.length ∧ machB ps out 4 n i = true
      · obtain ⟨i, hi, hbi⟩ := he
        have hone : machR ps out 4 n ps.length = [n] := machR_one hbi hi (fun j hj hji => by
          cases hbj : machB ps out 4 n j with
          | false => rfl
          | true =>
            exfalso
            unfold machB at hbi hbj
            simp only [Bool.and_eq_true, decide_eq_true_eq] at hbi hbj
            rcases Nat.lt_or_ge j i with h | h
            · exact V.mach i hi (by unfold machAt; omega) j h (by unfold machAt; omega)
            · exact V.mach j hj (by unfold machAt; omega) i (by omega) (by unfold machAt; omega))
        rw [hone]
        by_cases hx : dst P ps (out + 2 ^ n) help to fr < 0
        · rw [if_pos ⟨hb, hx⟩, List.filter_cons_of_pos (by simpa using hx)]; rfl
        · rw [if_neg (fun h => hx h.2), List.filter_cons_of_neg (by simpa using hx)]; rfl
      · have hno : ∀ i, i < ps.length → machB ps out 4 n i = false := fun i hi => by
          cases hbi : machB ps out 4 n i with
          | false => rfl
          | true => exact absurd ⟨i, hi, hbi⟩ he
        rw [machR_nil hno, if_neg]
        · rfl
        · rintro ⟨_, hx⟩
          have hP10 := V.size
          obtain ⟨l, W⟩ := (far_ok (out := out) (help := help) V.psv (by omega) hto).walk fr hfr hd
          have W2 : Wk ps (out + 2 ^ n) help fr to (dst P ps out help to fr).toNat l := W.mono fun k hk h1 => opn_out V ho hb hk (fun hm => by
            have := hno k hk
            rw [machB_t ⟨hm, by omega⟩] at this
            cases this) h1
          have := (far_ok (out := out + 2 ^ n) (help := help) V.psv (by omega) hto).least V.psv W2 hfr rfl
          omega
    · rw [machR_nil (fun i hi => machB_f (.inr (by omega))), if_neg (fun h => hb h.1)]
      rfl

/-! ## what is answered -/
def toI (l : List Nat) : List Int := l.map fun (n : Nat) => (n : Int)
theorem toI_len (l : List Nat) : (toI l).length = l.length := List.length_map ..
theorem toI_getD (l : List Nat) (k : Nat) : (toI l).getD k 0 = ((l.getD k 0 : Nat) : Int) := by
  unfold toI
  rw [List.getD_eq_getElem?_getD, List.getD_eq_getElem?_getD, List.getElem?_map]
  cases l[k]? <;> rfl
theorem wcl_icl (l : List Nat) : wcl l = icl (toI l) := by
  funext k j
  unfold wcl icl
  rw [toI_getD]
/-- Ticks, passages and the error of a first way. -/
noncomputable def wayV (pl : Int) (ps : List Psg) (xs : List Int) (out : Int) (help : Bool) (fr to : Int) : Int × List Int × Int :=
  if askE pl ps xs out [fr, to] ≠ 0 then (0, [], askE pl ps xs out [fr, to])
  else if dst pl.toNat ps out help to.toNat fr.toNat < 0 then (0, [], 3) else (dst pl.toNat ps out help to.toNat fr.toNat, toI (wayL pl.toNat ps out help fr.toNat to.toNat), 0)
noncomputable def needV (pl : Int) (ps : List Psg) (xs : List Int) (out : Int) (help : Bool) (fr to : Int) : List Int × Int :=
  if askE pl ps xs out [fr, to] ≠ 0 then ([], askE pl ps xs out [fr, to])
  else if dst pl.toNat ps out help to.toNat fr.toNat < 0 then ([], 3) else (toI (needL pl.toNat ps out help fr.toNat to.toNat 12), 0)
theorem wayV_err {pl : Int} {ps : List Psg} {xs : List Int} {out : Int} {help : Bool} {fr to : Int} : (wayV pl ps xs out help fr to).2.2 ≠ 0 ↔ (askE pl ps xs out [fr, to] ≠ 0 ∨ dst pl.toNat ps out help to.toNat fr.toNat < 0) := by
  unfold wayV
  by_cases h1 : askE pl ps xs out [fr, to] ≠ 0
  · rw [if_pos h1]; exact ⟨fun h => .inl h, fun _ => h1⟩
  · rw [if_neg h1]
    by_cases h2 : dst pl.toNat ps out help to.toNat fr.toNat < 0
    · rw [if_pos h2]; exact ⟨fun _ => .inr h2, fun _ => by decide⟩
    · rw [if_neg h2]; exact ⟨fun h => absurd rfl h, fun h => (h.elim (fun h => absurd h h1) (fun h => absurd h h2))⟩
theorem needV_err {pl : Int} {ps : List Psg} {xs : List Int} {out : Int} {help : Bool} {fr to : Int} (h : (wayV pl ps xs out help fr to).2.2 ≠ 0) : needV pl ps xs out help fr to = ([], (wayV pl ps xs out help fr to).2.2) := by
  unfold needV wayV at *
  by_cases h1 : askE pl ps xs out [fr, to] ≠ 0
  · rw [if_pos h1, if_pos h1]
  · rw [if_neg h1] at h
    rw [if_neg h1, if_neg h1]
    by_cases h2 : dst pl.toNat ps out help to.toNat fr.toNat < 0
    · rw [if_pos h2, if_pos h2]
    · rw [if_neg h2] at h; exact absurd rfl h
theorem bit_room {out : Int} {m : Nat} (ho : 0 ≤ out ∧ out ≤ 4095) (hm : m < 12) (h : ¬ out / 2 ^ m % 2 = 1) : 0 ≤ out + 2 ^ m ∧ out + 2 ^ m ≤ 4095 := by
  obtain ⟨o, rfl⟩ := Int.eq_ofNat_of_zero_le ho.1
  have h1 : o / 2 ^ m % 2 = 0 := by
    have h2 : ((o / 2 ^ m % 2 : Nat) : Int) ≠ 1 := by push_cast; exact h
    omega
  have h2 : o ||| 2 ^ m < 2 ^ 12 := Nat.or_lt_two_pow (by omega) (Nat.pow_lt_pow_right (by omega) hm)
  rw [nat_or h1, show (2 : Nat) ^ 12 = 4096 by decide] at h2
  have h3 : ((o + 2 ^ m : Nat) : Int) = (o : Int) + 2 ^ m := by push_cast; rfl
  have : (0 : Int) < 2 ^ m := Int.pow_pos (by decide)
  omega
theorem askE_out {pl : Int} {ps : List Psg} {xs : List Int} {out out' : Int} {l : List Int} (h : askE pl ps xs out l = 0) (ho : 0 ≤ out' ∧ out' ≤ 4095) : askE pl ps xs out' l = 0 := by
  unfold askE at h ⊢
  split at h
  · omega
  · rename_i h1
    rw [if_neg h1]
    split at h
    · rename_i h2
      simp only [Bool.and_eq_true, decide_eq_true_eq] at h2
      rw [if_pos (by simp only [Bool.and_eq_true, decide_eq_true_eq]; exact ⟨ho, h2.2⟩)]
    · cases h
theorem wayV_out {pl : Int} {ps : List Psg} {xs : List Int} {out : Int} {help : Bool} {fr to : Int} {m : Nat} (h : askE pl ps xs out [fr, to] = 0) (hm : m < 12) (hb : ¬ out / 2 ^ m % 2 = 1) :
    (wayV pl ps xs (out + 2 ^ m) help fr to).2.2 ≠ 0 ↔ dst pl.toNat ps (out + 2 ^ m) help to.toNat fr.toNat < 0 := by
  rw [wayV_err, askE_out h (bit_room (askE_ok h).2.1 hm hb)]
  exact ⟨fun h => h.resolve_left (fun h => h rfl), .inr⟩
theorem wayL_len {P : Nat} {ps : List Psg} {out : Int} {help : Bool} {fr to : Nat} (h : dst P ps out help to fr ≤ 200) : (wayL P ps out help fr to).length ≤ 200 := by
  unfold wayL
  have := wayG_len (ps := ps) (out := out) (help := help) (d := dst P ps out help to) (to := to) (dst P ps out help to fr).toNat fr
  omega
end Go.Proofs.Ytlmddkekeoebcaa
