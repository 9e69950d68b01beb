/- Chapter 8: a way that somebody names, and the first way. -/
import Derived.Test.YtlmddkekeoebcaaWyV
namespace Go.Proofs.Ytlmddkekeoebcaa
set_option linter.unusedVariables false
set_option linter.unusedSimpArgs false

/-! ## a way that somebody names -/
def freeStep (ps : List Psg) (out : Int) (help : Bool) (x : Int) (s : Int × Int) : Option (Int × Int) :=
  if ((0 ≤ x ∧ x ≤ (ps.length : Int) - 1) ∧ 0 ≤ othr (ps.getD x.toNat Psg.zero) s.1) ∧ opn out help (ps.getD x.toNat Psg.zero) = true then some (othr (ps.getD x.toNat Psg.zero) s.1, s.2 + (ps.getD x.toNat Psg.zero).ticks) else none
def freeG (ps : List Psg) (out : Int) (help : Bool) (l : List Int) (a : Int) : Nat → Option (Int × Int)
  | 0 => some (a, 0)
  | k + 1 => (freeG ps out help l a k).bind (freeStep ps out help (l.getD k 0))
def freeV (ps : List Psg) (out : Int) (help : Bool) (a b : Int) (l : List Int) : Int × Bool := match freeG ps out help l a l.length with
  | none => (0, false)
  | some s => (s.2, decide (s.1 = b))
section
variable {ps : List Psg} {out : Int} {help : Bool} {l : List Int} {a b : Int} {k : Nat} {s : Int × Int}
theorem freeG_none (h : freeG ps out help l a k = none) : ∀ {n}, k ≤ n → freeG ps out help l a n = none := by
  intro n
  induction n with
  | zero => intro hk; have : k = 0 := by omega
            subst this; exact h
  | succ n ih =>
    intro hk
    by_cases e : k = n + 1
    · subst e; exact h
    · rw [freeG, ih (by omega)]; rfl
theorem free_bad {a0 t0 : Int} (hk : k < l.length) (h : freeG ps out help l a k = some (a0, t0)) (hx : ¬ (((0 ≤ l.getD k 0 ∧ l.getD k 0 ≤ (ps.length : Int) - 1) ∧ 0 ≤ othr (ps.getD (l.getD k 0).toNat Psg.zero) a0) ∧ opn out help (ps.getD (l.getD k 0).toNat Psg.zero) = true)) : freeV ps out help a b l = (0, false) := by
  have h1 : freeG ps out help l a (k + 1) = none := by rw [freeG, h]; show freeStep _ _ _ _ (a0, t0) = none; unfold freeStep; rw [if_neg hx]
  unfold freeV
  rw [freeG_none h1 (by omega)]
theorem free_next {a0 t0 : Int} (h : freeG ps out help l a k = some (a0, t0)) (hx : ((0 ≤ l.getD k 0 ∧ l.getD k 0 ≤ (ps.length : Int) - 1) ∧ 0 ≤ othr (ps.getD (l.getD k 0).toNat Psg.zero) a0) ∧ opn out help (ps.getD (l.getD k 0).toNat Psg.zero) = true) : freeG ps out help l a (k + 1) = some (othr (ps.getD (l.getD k 0).toNat Psg.zero) a0, t0 + (ps.getD (l.getD k 0).toNat Psg.zero).ticks) := by
  rw [freeG, h]; show freeStep _ _ _ _ (a0, t0) = _; unfold freeStep; rw [if_pos hx]
theorem free_end {a0 t0 : Int} (h : freeG ps out help l a l.length = some (a0, t0)) : freeV ps out help a b l = (t0, decide (a0 = b)) := by unfold freeV; rw [h]
theorem free_split (h : freeG ps out help l a (k + 1) = some s) : ∃ s', freeG ps out help l a k = some s' ∧ (((0 ≤ l.getD k 0 ∧ l.getD k 0 ≤ (ps.length : Int) - 1) ∧ 0 ≤ othr (ps.getD (l.getD k 0).toNat Psg.zero) s'.1) ∧ opn out help (ps.getD (l.getD k 0).toNat Psg.zero) = true) ∧ s = (othr (ps.getD (l.getD k 0).toNat Psg.zero) s'.1, s'.2 + (ps.getD (l.getD k 0).toNat Psg.zero).ticks) := by
  rw [freeG] at h
  cases h1 : freeG ps out help l a k with
  | none => rw [h1] at h; cases h
  | some s' =>
    rw [h1] at h
    have h2 : freeStep ps out help (l.getD k 0) s' = some s := h
    unfold freeStep at h2
    split at h2
    · rename_i hx; exact ⟨s', rfl, hx, by injection h2 with h2; exact h2.symm⟩
    · cases h2
end
/-- Ways, one step longer at the end. -/
theorem Wk.snoc {ps : List Psg} {out : Int} {help : Bool} {a b n k c : Nat} {l : List Nat} (W : Wk ps out help a b n l) : k < ps.length → oth out help (ps.getD k Psg.zero) b = (c : Int) → 1 ≤ (ps.getD k Psg.zero).ticks → Wk ps out help a c (n + (ps.getD k Psg.zero).ticks.toNat) (l ++ [k]) := by
  induction W with
  | nil a =>
    intro hk ho ht
    have := Wk.cons hk ho (Wk.nil c)
    rw [Nat.zero_add]
    exact this
  | @cons a b c' n k' l' hk' ho' _ ih =>
    intro hk ho ht
    have := Wk.cons hk' ho' (ih hk ho ht)
    rw [Nat.add_assoc]
    exact this
theorem free_walk {P : Nat} {ps : List Psg} (V : PsV P ps) {out : Int} {help : Bool} {l : List Int} {a : Nat} : ∀ {k : Nat} {s : Int × Int}, k ≤ l.length → freeG ps out help l a k = some s → ∃ b n : Nat, s = ((b : Int), (n : Int)) ∧ (∀ q, q < k → 0 ≤ l.getD q 0 ∧ l.getD q 0 < ps.length) ∧ Wk ps out help a b n ((l.take k).map Int.toNat) := by
  intro k
  induction k with
  | zero =>
    intro s _ h
    injection h with h
    subst h
    exact ⟨a, 0, rfl, fun q hq => absurd hq (Nat.not_lt_zero q), Wk.nil a⟩
  | succ k ih =>
    intro s hk h
    obtain ⟨s', h1, ⟨⟨hx, ho⟩, hop⟩, rfl⟩ := free_split h
    obtain ⟨b, n, rfl, hq, W⟩ := ih (by omega) h1
    dsimp only at ho ⊢
    have ht := (V (l.getD k 0).toNat (by omega)).2.2.1
    refine ⟨(othr (ps.getD (l.getD k 0).toNat Psg.zero) b).toNat, n + (ps.getD (l.getD k 0).toNat Psg.zero).ticks.toNat, ?_, fun q hq' => ?_, ?_⟩
    · rw [Prod.mk.injEq]; omega
    · by_cases e : q = k
      · subst e; omega
      · exact hq q (by omega)
    · have h2 := W.snoc (k := (l.getD k 0).toNat) (c := (othr (ps.getD (l.getD k 0).toNat Psg.zero) b).toNat) (by omega) (by rw [oth_opn hop]; omega) ht
      have e : (l.take (k + 1)).map Int.toNat = (l.take k).map Int.toNat ++ [(l.getD k 0).toNat] := by
        rw [List.take_succ_eq_append_getElem (by omega), List.map_append, List.getD_eq_getElem?_getD, List.getElem?_eq_getElem (by omega)]; rfl
      rw [e]
      exact h2
/-- What is said of a way that is one. -/
theorem free_is {P : Nat} {ps : List Psg} (V : PsV P ps) {out : Int} {help : Bool} {l : List Int} {a b : Nat} (h : (freeV ps out help a b l).2 = true) : ∃ n : Nat, (freeV ps out help a b l).1 = (n : Int) ∧ (∀ q, q < l.length → 0 ≤ l.getD q 0 ∧ l.getD q 0 < ps.length) ∧ Wk ps out help a b n (l.map Int.toNat) := by
  cases h1 : freeG ps out help l a l.length with
  | none => unfold freeV at h; rw [h1] at h; cases h
  | some s =>
    obtain ⟨c, n, rfl, hq, W⟩ := free_walk V (Nat.le_refl _) h1
    rw [free_end h1] at h ⊢
    have hc : (c : Int) = b := of_decide_eq_true h
    have hc' : c = b := by omega
    subst hc'
    rw [List.take_length] at W
    exact ⟨n, rfl, hq, W⟩
theorem free_of {ps : List Psg} {out : Int} {help : Bool} {a b n : Nat} {l : List Nat} (W : Wk ps out help a b n l) : ∀ (L : List Int) (k t0 : Nat) (a0 : Int), k ≤ L.length → L.drop k = toI l → freeG ps out help L a0 k = some ((a : Int), (t0 : Int)) → (∀ q, q < ps.length → 1 ≤ (ps.getD q Psg.zero).ticks) → freeG ps out help L a0 L.length = some ((b : Int), ((t0 + n : Nat) : Int)) := by
  induction W with
  | nil a =>
    intro L k t0 a0 hkL hd h _
    have hl : L.length ≤ k := by
      have := congrArg List.length hd
      rw [List.length_drop, toI_len] at this
      simp at this; omega
    have e : L.length = k := by omega
    rw [e]; exact h
  | @cons a b c n k' l' hk' ho' _ ih =>
    intro L k t0 a0 hkL hd h ht
    have hL : L.length - k = l'.length + 1 := by
      have := congrArg List.length hd
      rw [List.length_drop, toI_len] at this
      simpa using this
    have hg : L.getD k 0 = (k' : Int) := by
      have h1 : (L.drop k)[0]? = (toI (k' :: l'))[0]? := by rw [hd]
      rw [List.getElem?_drop] at h1
      rw [List.getD_eq_getElem?_getD, show k = k + 0 from rfl, h1]
      rfl
    have hop : opn out help (ps.getD k' Psg.zero) = true := by
      cases hb : opn out help (ps.getD k' Psg.zero) with
      | true => rfl
      | false => rw [oth_shut hb] at ho'; omega
    have ho2 := ho'
    rw [oth_opn hop] at ho2
    have h3 := free_next h (by rw [hg, Int.toNat_natCast]; exact ⟨⟨by omega, by omega⟩, hop⟩)
    rw [hg, Int.toNat_natCast] at h3
    rw [ho2] at h3
    have ht' := ht k' hk'
    have h4 := ih L (k + 1) (t0 + (ps.getD k' Psg.zero).ticks.toNat) a0 (by omega) (by
      rw [← List.tail_drop, hd]; rfl) (by rw [h3]; congr 2; omega) ht
    rw [h4]
    congr 3
    omega
theorem free_yes {ps : List Psg} {out : Int} {help : Bool} {a b n : Nat} {l : List Nat} (W : Wk ps out help a b n l) (ht : ∀ q, q < ps.length → 1 ≤ (ps.getD q Psg.zero).ticks) : freeV ps out help a b (toI l) = ((n : Int), true) := by
  have := free_of W (toI l) 0 0 a (Nat.zero_le _) rfl rfl ht
  rw [free_end this]
  simp

/-! ## which list comes first -/
def befL : List Int → List Int → Bool
  | x :: xs, y :: ys => if x = y then befL xs ys else decide (x < y)
  | _, _ => false
theorem bef_drop {x y : List Int} {k : Nat} (h : ∀ q, q < k → x.getD q 0 = y.getD q 0) (hx : k ≤ x.length) (hy : k ≤ y.length) : befL x y = befL (x.drop k) (y.drop k) := by
  induction k generalizing x y with
  | zero => rfl
  | succ k ih =>
    match x, y, hx, hy with
    | a :: xs, b :: ys, hx, hy =>
      have h0 : a = b := h 0 (by omega)
      subst h0
      rw [befL, if_pos rfl, List.drop_succ_cons, List.drop_succ_cons]
      exact ih (fun q hq => h (q + 1) (by omega)) (by simpa using hx) (by simpa using hy)
theorem bef_end {x y : List Int} {k : Nat} (h : ∀ q, q < k → x.getD q 0 = y.getD q 0) (hx : k ≤ x.length) (hy : k ≤ y.length) (he : x.length ≤ k ∨ y.length ≤ k) : befL x y = false := by
  rw [bef_drop h hx hy]
  rcases he with he | he
  · rw [List.drop_of_length_le he]; rfl
  · rw [List.drop_of_length_le he]; cases List.drop k x <;> rfl
theorem bef_at {x y : List Int} {k : Nat} (h : ∀ q, q < k → x.getD q 0 = y.getD q 0) (hx : k < x.length) (hy : k < y.length) (hne : ¬ x.getD k 0 = y.getD k 0) : befL x y = decide (x.getD k 0 < y.getD k 0) := by
  rw [bef_drop h (by omega) (by omega), List.drop_eq_getElem_cons hx, List.drop_eq_getElem_cons hy]
  rw [List.getD_eq_getElem?_getD, List.getD_eq_getElem?_getD, List.getElem?_eq_getElem hx, List.getElem?_eq_getElem hy] at hne ⊢
  exact if_neg hne
/-- No way that is as quick comes before the first one. -/
theorem way_first {P : Nat} {ps : List Psg} (V : PsV P ps) {out : Int} {help : Bool} {to : Nat} {d : Nat → Int} (hd : FarOk P ps out help to d) {a c n : Nat} {l : List Nat} (W : Wk ps out help a c n l) : a < P → c = to → (n : Int) = d a → ∀ g : Nat, d a ≤ g → befL (toI l) (toI (wayG ps out help d to g a)) = false := by
  induction W with
  | nil a => intro _ _ _ g _; rfl
  | @cons a b c n k l hk ho W ih =>
    intro ha hc hn g hg
    subst hc
    by_cases e : a = c
    · subst e; rw [wayG_to]; cases toI (k :: l) <;> rfl
    · have hb2 := (oth_in V hk (a := (a : Int)) (by rw [ho]; omega)).2.1
      rw [ho] at hb2
      have hbP : b < P := by omega
      have ht := (V k hk).2.2
      have h1 := hd.least V W hbP rfl
      have h2 := hd.fix a ha k hk b ho h1.1
      have hn' : (((ps.getD k Psg.zero).ticks.toNat + n : Nat) : Int) = (ps.getD k Psg.zero).ticks + n := by omega
      have hs : stepB ps out help d a k = true := by
        unfold stepB
        simp only [Bool.and_eq_true, decide_eq_true_eq]
        rw [ho, Int.toNat_natCast]
        omega
      obtain ⟨h3, h4, h5⟩ := hd.stp V ha (by omega) e
      obtain ⟨g, rfl⟩ : ∃ m, g = m + 1 := ⟨g - 1, by omega⟩
      rw [wayG_step e rfl]
      show befL ((k : Int) :: toI l) (((stepK ps out help d a : Nat) : Int) :: toI _) = false
      rw [befL]
      by_cases e2 : k = stepK ps out help d a
      · rw [if_pos (by omega), ← e2, ho, Int.toNat_natCast]
        exact ih hbP rfl (by omega) g (by omega)
      · rw [if_neg (by omega)]
        refine decide_eq_false fun hlt => ?_
        rw [h5 k (by omega)] at hs
        cases hs

theorem toI_toNat {l : List Int} (h : ∀ q, q < l.length → 0 ≤ l.getD q 0) : toI (l.map Int.toNat) = l := by
  refine List.ext_getElem (by rw [toI_len, List.length_map]) fun k h1 h2 => ?_
  have := h k h2
  rw [List.getD_eq_getElem?_getD, List.getElem?_eq_getElem h2, Option.getD_some] at this
  show ((l.map Int.toNat).map fun (n : Nat) => (n : Int))[k]'(by rw [List.length_map, List.length_map]; exact h2) = l[k]
  rw [List.getElem_map, List.getElem_map]
  omega
theorem needL_in {P : Nat} {ps : List Psg} {out : Int} {help : Bool} {fr to : Nat} : ∀ (n m : Nat), m ∈ needL P ps out help fr to n → m < n ∧ out / 2 ^ m % 2 = 0 ∧ dst P ps (out + 2 ^ m) help to fr < 0 := by
  intro n
  induction n with
  | zero => intro m h; cases h
  | succ n ih =>
    intro m h
    rw [needL] at h
    rcases List.mem_append.1 h with h | h
    · have := ih m h; exact ⟨by omega, this.2⟩
    · split at h
      · rename_i hc
        have e := List.mem_singleton.1 h
        subst e
        unfold bitI at hc
        rw [Int.toNat_natCast] at hc
        exact ⟨by omega, hc⟩
      · cases h
theorem opn_help {out : Int} {help : Bool} {p : Psg} (h : opn out help p = true) : opn out true p = true := by
  unfold opn at h ⊢
  simp only [Bool.or_eq_true, Bool.and_eq_true, decide_eq_true_eq] at h ⊢
  rcases h with h | h
  · exact .inl h
  · exact .inr ⟨h.1, trivial⟩
theorem opn_whole {out : Int} {help : Bool} {p : Psg} (h : opn out help p = true) : opn 0 help p = true := by
  unfold opn at h ⊢
  simp only [Bool.or_eq_true, Bool.and_eq_true, decide_eq_true_eq] at h ⊢
  rcases h with (h | h) | h
  · exact .inl (.inl h)
  · refine .inl (.inr ⟨h.1, ?_⟩)
    unfold bitI
    rw [Int.zero_ediv]; rfl
  · exact .inr h
section
variable {P : Nat} {ps : List Psg} {xs : List Int} {out : Int} {help : Bool} {fr to : Nat} {l : List Int}
theorem askE_of (hst : stE P ps xs = 0) (ho : 0 ≤ out ∧ out ≤ 4095) (hfr : fr < P) (hto : to < P) : askE P ps xs out [(fr : Int), (to : Int)] = 0 := by
  unfold askE
  rw [if_neg (by omega), if_pos]
  simp only [Bool.and_eq_true, decide_eq_true_eq]
  refine ⟨ho, allN_iff.2 fun k hk => decide_eq_true ?_⟩
  match k, hk with
  | 0, _ => show 0 ≤ (fr : Int) ∧ (fr : Int) ≤ P - 1; omega
  | 1, _ => show 0 ≤ (to : Int) ∧ (to : Int) ≤ P - 1; omega
theorem wayV_ok (h : askE P ps xs out [(fr : Int), (to : Int)] = 0) (hd : 0 ≤ dst P ps out help to fr) : wayV P ps xs out help fr to = (dst P ps out help to fr, toI (wayL P ps out help fr to), 0) := by
  unfold wayV
  simp only [Int.toNat_natCast]
  rw [if_neg (by omega), if_neg (by omega)]
theorem wayV_no (h : askE P ps xs out [(fr : Int), (to : Int)] = 0) (hd : dst P ps out help to fr < 0) : wayV P ps xs out help fr to = (0, [], 3) := by
  unfold wayV
  simp only [Int.toNat_natCast]
  rw [if_neg (by omega), if_pos hd]
theorem short_no (V : StV P ps xs) (h : askE P ps xs out [(fr : Int), (to : Int)] = 0) (hfr : fr < P) (hto : to < P) (he : (wayV P ps xs out help fr to).2.2 ≠ 0) : (wayV P ps xs out help fr to).2.2 = 3 ∧ (freeV ps out help fr to l).2 = false := by
  have hP := V.size
  by_cases hd : dst P ps out help to fr < 0
  · rw [wayV_no h hd]
    refine ⟨rfl, ?_⟩
    cases hf : (freeV ps out help fr to l).2 with
    | false => rfl
    | true =>
      obtain ⟨n, _, _, W⟩ := free_is V.psv hf
      have := (far_ok (out := out) (help := help) V.psv (by omega) hto).least V.psv W hfr rfl
      omega
  · rw [wayV_ok h (by omega)] at he
    exact absurd rfl he
structure Short (P : Nat) (ps : List Psg) (xs : List Int) (out : Int) (help : Bool) (fr to : Nat) (l : List Int) : Prop where
  is : freeV ps out help fr to (wayV P ps xs out help fr to).2.1 = ((wayV P ps xs out help fr to).1, true)
  least : (freeV ps out help fr to l).2 = true → (wayV P ps xs out help fr to).1 ≤ (freeV ps out help fr to l).1
  first : (freeV ps out help fr to l).2 = true → (freeV ps out help fr to l).1 = (wayV P ps xs out help fr to).1 → befL l (wayV P ps xs out help fr to).2.1 = false
  need0 : (needV P ps xs out help fr to).2 = 0
  need : (freeV ps out help fr to l).2 = true → ∀ i, i < (needV P ps xs out help fr to).1.length → ∃ k, k < l.length ∧ (ps.getD (l.getD k 0).toNat Psg.zero).kind = 4 ∧ (ps.getD (l.getD k 0).toNat Psg.zero).mach = (needV P ps xs out help fr to).1.getD i 0
  rng : (freeV ps out help fr to l).2 = true → ∀ q, q < l.length → 0 ≤ l.getD q 0 ∧ l.getD q 0 < ps.length
  helped : (wayV P ps xs out true fr to).2.2 = 0 ∧ (wayV P ps xs out true fr to).1 ≤ (wayV P ps xs out help fr to).1
  whole : (wayV P ps xs 0 help fr to).2.2 = 0 ∧ (wayV P ps xs 0 help fr to).1 ≤ (wayV P ps xs out help fr to).1
theorem short_ok (V : StV P ps xs) (h : askE P ps xs out [(fr : Int), (to : Int)] = 0) (hfr : fr < P) (hto : to < P) (he : (wayV P ps xs out help fr to).2.2 = 0) : Short P ps xs out help fr to l := by
  have hP := V.size
  have ho := (askE_ok h).2.1
  have hF := far_ok (out := out) (help := help) V.psv (by omega) hto
  have hd : 0 ≤ dst P ps out help to fr := by
    by_cases hd : dst P ps out help to fr < 0
    · rw [wayV_no h hd] at he; cases he
    · omega
  have eW := wayV_ok h hd
  have ht : ∀ q, q < ps.length → 1 ≤ (ps.getD q Psg.zero).ticks := fun q hq => (V.psv q hq).2.2.1
  have hWay : Wk ps out help fr to (dst P ps out help to fr).toNat (wayL P ps out help fr to) := hF.way V.psv _ fr hfr hd (by omega)
  have less : ∀ {out' : Int} {help' : Bool}, askE P ps xs out' [(fr : Int), (to : Int)] = 0 → (∀ p, opn out help p = true → opn out' help' p = true) → (wayV P ps xs out' help' fr to).2.2 = 0 ∧ (wayV P ps xs out' help' fr to).1 ≤ (wayV P ps xs out help fr to).1 := by
    intro out' help' ha hop
    have h2 := (far_ok (out := out') (help := help') V.psv (by omega) hto).least V.psv (hWay.mono fun k _ => hop _) hfr rfl
    rw [wayV_ok ha h2.1, eW]
    exact ⟨rfl, by show dst P ps out' help' to fr ≤ dst P ps out help to fr; omega⟩
  refine ⟨?_, fun hf => ?_, fun hf hn => ?_, ?_, fun hf i hi => ?_, fun hf => ?_, less h (fun p => opn_help), less (askE_out h (by omega)) (fun p => opn_whole)⟩
  · rw [eW]
    have := free_yes hWay ht
    dsimp only
    rw [this]
    congr 1
    omega
  · obtain ⟨n, e, _, W⟩ := free_is V.psv hf
    rw [eW, e]
    have := hF.least V.psv W hfr rfl
    dsimp only
    omega
  · obtain ⟨n, e, hq, W⟩ := free_is V.psv hf
    rw [eW] at hn ⊢
    rw [e] at hn
    have := way_first V.psv hF W hfr rfl hn (dst P ps out help to fr).toNat (by omega)
    rw [toI_toNat (fun q hq' => (hq q hq').1)] at this
    exact this
  · unfold needV
    simp only [Int.toNat_natCast]
    rw [if_neg (by omega), if_neg (by omega)]
  · have eN : (needV P ps xs out help fr to).1 = toI (needL P ps out help fr to 12) := by
      unfold needV
      simp only [Int.toNat_natCast]
      rw [if_neg (by omega), if_neg (by omega)]
    rw [eN] at hi ⊢
    rw [toI_len] at hi
    rw [toI_getD]
    have hin := needL_in 12 _ (by
      rw [List.getD_eq_getElem?_getD, List.getElem?_eq_getElem hi]; exact List.getElem_mem hi : (needL P ps out help fr to 12).getD i 0 ∈ needL P ps out help fr to 12)
    generalize (needL P ps out help fr to 12).getD i 0 = m at hin
    obtain ⟨n, e, hq, W⟩ := free_is V.psv hf
    refine Classical.byContradiction fun hx => ?_
    have W2 := W.mono' (out' := out + 2 ^ m) (help' := help) (fun k hkl hk => opn_out V ho.1 hin.2.1 hk (fun hm => by
      obtain ⟨x, hxl, rfl⟩ := List.mem_map.1 hkl
      obtain ⟨q, hql, hqe⟩ := List.getElem_of_mem hxl
      apply hx
      refine ⟨q, hql, ?_⟩
      rw [show l.getD q 0 = x by rw [List.getD_eq_getElem?_getD, List.getElem?_eq_getElem hql, Option.getD_some, hqe]]
      exact hm))
    have := (far_ok (out := out + 2 ^ m) (help := help) V.psv (by omega) hto).least V.psv W2 hfr rfl
    omega
  · obtain ⟨n, e, hq, W⟩ := free_is V.psv hf
    exact hq
end
end Go.Proofs.Ytlmddkekeoebcaa
