/- Chapter 8: a way that somebody names, and the first way. Chapter 8: hours and promises. Chapter 8: the station of the examples. -/
import Derived.Test.YtlmddkekeoebcaaE4
namespace Go.Proofs.Ytlmddkekeoebcaa
set_option linter.unusedVariables false
set_option linter.unusedSimpArgs false

/-! ## a way that somebody names -/
def freeStep (ps : List Psg) (out : Int) (help : Bool) (x : Int) (s : Int × Int) : Option (Int × Int) :=
  if ((0 ≤ x ∧ x ≤ (ps.length : Int) - 1) ∧ 0 ≤ othr (ps.getD x.toNat Psg.zero) s.1) ∧ opn out help (ps.getD x.toNat Psg.zero) = true then some (othr (ps.getD x.toNat Psg.zero) s.1, s.2 + (ps.getD x.toNat Psg.zero).ticks) else none
def freeG (ps : List Psg) (out : Int) (help : Bool) (l : List Int) (a : Int) : Nat → Option (Int × Int)
  | 0 => some (a, 0)
  | k + 1 => (freeG ps out help l a k).bind (freeStep ps out help (l.getD k 0))
def freeV (ps : List Psg) (out : Int) (help : Bool) (a b : Int) (l : List Int) : Int × Bool := match freeG ps out help l a l.length with
  | none => (0, false)
  | some s => (s.2, decide (s.1 = b))
section
variable {ps : List Psg} {out : Int} {help : Bool} {l : List Int} {a b : Int} {k : Nat} {s : Int × Int}
theorem freeG_none (h : freeG ps out help l a k = none) : ∀ {n}, k ≤ n → freeG ps out help l a n = none := by
  intro n
  induction n with
  | zero => intro hk; have : k = 0 := by omega
            subst this; exact h
  | succ n ih =>
    intro hk
    by_cases e : k = n + 1
    · subst e; exact h
    · rw [freeG, ih (by omega)]; rfl
theorem free_bad {a0 t0 : Int} (hk : k < l.length) (h : freeG ps out help l a k = some (a0, t0)) (hx : ¬ (((0 ≤ l.getD k 0 ∧ l.getD k 0 ≤ (ps.length : Int) - 1) ∧ 0 ≤ othr (ps.getD (l.getD k 0).toNat Psg.zero) a0) ∧ opn out help (ps.getD (l.getD k 0).toNat Psg.zero) = true)) : freeV ps out help a b l = (0, false) := by
  have h1 : freeG ps out help l a (k + 1) = none := by rw [freeG, h]; show freeStep _ _ _ _ (a0, t0) = none; unfold freeStep; rw [if_neg hx]
  unfold freeV
  rw [freeG_none h1 (by omega)]
theorem free_next {a0 t0 : Int} (h : freeG ps out help l a k = some (a0, t0)) (hx : ((0 ≤ l.getD k 0 ∧ l.getD k 0 ≤ (ps.length : Int) - 1) ∧ 0 ≤ othr (ps.getD (l.getD k 0).toNat Psg.zero) a0) ∧ opn out help (ps.getD (l.getD k 0).toNat Psg.zero) = true) : freeG ps out help l a (k + 1) = some (othr (ps.getD (l.getD k 0).toNat Psg.zero) a0, t0 + (ps.getD (l.getD k 0).toNat Psg.zero).ticks) := by
  rw [freeG, h]; show freeStep _ _ _ _ (a0, t0) = _; unfold freeStep; rw [if_pos hx]
theorem free_end {a0 t0 : Int} (h : freeG ps out help l a l.length = some (a0, t0)) : freeV ps out help a b l = (t0, decide (a0 = b)) := by unfold freeV; rw [h]
theorem free_split (h : freeG ps out help l a (k + 1) = some s) : ∃ s', freeG ps out help l a k = some s' ∧ (((0 ≤ l.getD k 0 ∧ l.getD k 0 ≤ (ps.length : Int) - 1) ∧ 0 ≤ othr (ps.getD (l.getD k 0).toNat Psg.zero) s'.1) ∧ opn out help (ps.getD (l.getD k 0).toNat Psg.zero) = true) ∧ s = (othr (ps.getD (l.getD k 0).toNat Psg.zero) s'.1, s'.2 + (ps.getD (l.getD k 0).toNat Psg.zero).ticks) := by
  rw [freeG] at h
  cases h1 : freeG ps out help l a k with
  | none => rw [h1] at h; cases h
  | some s' =>
    rw [h1] at h
    have h2 : freeStep ps out help (l.getD k 0) s' = some s := h
    unfold freeStep at h2
    split at h2
    · rename_i hx; exact ⟨s', rfl, hx, by injection h2 with h2; exact h2.symm⟩
    · cases h2
end
/-- Ways, one step longer at the end. -/
theorem Wk.snoc {ps : List Psg} {out : Int} {help : Bool} {a b n k c : Nat} {l : List Nat} (W : Wk ps out help a b n l) : k < ps.length → oth out help (ps.getD k Psg.zero) b = (c : Int) → 1 ≤ (ps.getD k Psg.zero).ticks → Wk ps out help a c (n + (ps.getD k Psg.zero).ticks.toNat) (l ++ [k]) := by
  induction W with
  | nil a =>
    intro hk ho ht
    have := Wk.cons hk ho (Wk.nil c)
    rw [Nat.zero_add]
    exact this
  | @cons a b c' n k' l' hk' ho' _ ih =>
    intro hk ho ht
    have := Wk.cons hk' ho' (ih hk ho ht)
    rw [Nat.add_assoc]
    exact this
theorem free_walk {P : Nat} {ps : List Psg} (V : PsV P ps) {out : Int} {help : Bool} {l : List Int} {a : Nat} : ∀ {k : Nat} {s : Int × Int}, k ≤ l.length → freeG ps out help l a k = some s → ∃ b n : Nat, s = ((b : Int), (n : Int)) ∧ (∀ q, q < k → 0 ≤ l.getD q 0 ∧ l.getD q 0 < ps.length) ∧ Wk ps out help a b n ((l.take k).map Int.toNat) := by
  intro k
  induction k with
  | zero =>
    intro s _ h
    injection h with h
    subst h
    exact ⟨a, 0, rfl, fun q hq => absurd hq (Nat.not_lt_zero q), Wk.nil a⟩
  | succ k ih =>
    intro s hk h
    obtain ⟨s', h1, ⟨⟨hx, ho⟩, hop⟩, rfl⟩ := free_split h
    obtain ⟨b, n, rfl, hq, W⟩ := ih (by omega) h1
    dsimp only at ho ⊢
    have ht := (V (l.getD k 0).toNat (by omega)).2.2.1
    refine ⟨(othr (ps.getD (l.getD k 0).toNat Psg.zero) b).toNat, n + (ps.getD (l.getD k 0).toNat Psg.zero).ticks.toNat, ?_, fun q hq' => ?_, ?_⟩
    · rw [Prod.mk.injEq]; omega
    · by_cases e : q = k
      · subst e; omega
      · exact hq q (by omega)
    · have h2 := W.snoc (k := (l.getD k 0).toNat) (c := (othr (ps.getD (l.getD k 0).toNat Psg.zero) b).toNat) (by omega) (by rw [oth_opn hop]; omega) ht
      have e : (l.take (k + 1)).map Int.toNat = (l.take k).map Int.toNat ++ [(l.getD k 0).toNat] := by
        rw [List.take_succ_eq_append_getElem (by omega), List.map_append, List.getD_eq_getElem?_getD, List.getElem?_eq_getElem (by omega)]; rfl
      rw [e]
      exact h2
/-- What is said of a way that is one. -/
theorem free_is {P : Nat} {ps : List Psg} (V : PsV P ps) {out : Int} {help : Bool} {l : List Int} {a b : Nat} (h : (freeV ps out help a b l).2 = true) : ∃ n : Nat, (freeV ps out help a b l).1 = (n : Int) ∧ (∀ q, q < l.length → 0 ≤ l.getD q 0 ∧ l.getD q 0 < ps.length) ∧ Wk ps out help a b n (l.map Int.toNat) := by
  cases h1 : freeG ps out help l a l.length with
  | none => unfold freeV at h; rw [h1] at h; cases h
  | some s =>
    obtain ⟨c, n, rfl, hq, W⟩ := free_walk V (Nat.le_refl _) h1
    rw [free_end h1] at h ⊢
    have hc : (c : Int) = b := of_decide_eq_true h
    have hc' : c = b := by omega
    subst hc'
    rw [List.take_length] at W
    exact ⟨n, rfl, hq, W⟩
theorem free_of {ps : List Psg} {out : Int} {help : Bool} {a b n : Nat} {l : List Nat} (W : Wk ps out help a b n l) : ∀ (L : List Int) (k t0 : Nat) (a0 : Int), k ≤ L.length → L.drop k = toI l → freeG ps out help L a0 k = some ((a : Int), (t0 : Int)) → (∀ q, q < ps.length → 1 ≤ (ps.getD q Psg.zero).ticks) → freeG ps out help L a0 L.length = some ((b : Int), ((t0 + n : Nat) : Int)) := by
  induction W with
  | nil a =>
    intro L k t0 a0 hkL hd h _
    have hl : L.length ≤ k := by
      have := congrArg List.length hd
      rw [List.length_drop, toI_len] at this
      simp at this; omega
    have e : L.length = k := by omega
    rw [e]; exact h
  | @cons a b c n k' l' hk' ho' _ ih =>
    intro L k t0 a0 hkL hd h ht
    have hL : L.length - k = l'.length + 1 := by
      have := congrArg List.length hd
      rw [List.length_drop, toI_len] at this
      simpa using this
    have hg : L.getD k 0 = (k' : Int) := by
      have h1 : (L.drop k)[0]? = (toI (k' :: l'))[0]? := by rw [hd]
      rw [List.getElem?_drop] at h1
      rw [List.getD_eq_getElem?_getD, show k = k + 0 from rfl, h1]
      rfl
    have hop : opn out help (ps.getD k' Psg.zero) = true := by
      cases hb : opn out help (ps.getD k' Psg.zero) with
      | true => rfl
      | false => rw [oth_shut hb] at ho'; omega
    have ho2 := ho'
    rw [oth_opn hop] at ho2
    have h3 := free_next h (by rw [hg, Int.toNat_natCast]; exact ⟨⟨by omega, by omega⟩, hop⟩)
    rw [hg, Int.toNat_natCast] at h3
    rw [ho2] at h3
    have ht' := ht k' hk'
    have h4 := ih L (k + 1) (t0 + (ps.getD k' Psg.zero).ticks.toNat) a0 (by omega) (by
      rw [← List.tail_drop, hd]; rfl) (by rw [h3]; congr 2; omega) ht
    rw [h4]
    congr 3
    omega
theorem free_yes {ps : List Psg} {out : Int} {help : Bool} {a b n : Nat} {l : List Nat} (W : Wk ps out help a b n l) (ht : ∀ q, q < ps.length → 1 ≤ (ps.getD q Psg.zero).ticks) : freeV ps out help a b (toI l) = ((n : Int), true) := by
  have := free_of W (toI l) 0 0 a (Nat.zero_le _) rfl rfl ht
  rw [free_end this]
  simp

/-! ## which list comes first -/
def befL : List Int → List Int → Bool
  | x :: xs, y :: ys => if x = y then befL xs ys else decide (x < y)
  | _, _ => false
theorem bef_drop {x y : List Int} {k : Nat} (h : ∀ q, q < k → x.getD q 0 = y.getD q 0) (hx : k ≤ x.length) (hy : k ≤ y.length) : befL x y = befL (x.drop k) (y.drop k) := by
  induction k generalizing x y with
  | zero => rfl
  | succ k ih =>
    match x, y, hx, hy with
    | a :: xs, b :: ys, hx, hy =>
      have h0 : a = b := h 0 (by omega)
      subst h0
      rw [befL, if_pos rfl, List.drop_succ_cons, List.drop_succ_cons]
      exact ih (fun q hq => h (q + 1) (by omega)) (by simpa using hx) (by simpa using hy)
theorem bef_end {x y : List Int} {k : Nat} (h : ∀ q, q < k → x.getD q 0 = y.getD q 0) (hx : k ≤ x.length) (hy : k ≤ y.length) (he : x.length ≤ k ∨ y.length ≤ k) : befL x y = false := by
  rw [bef_drop h hx hy]
  rcases he with he | he
  · rw [List.drop_of_length_le he]; rfl
  · rw [List.drop_of_length_le he]; cases List.drop k x <;> rfl
theorem bef_at {x y : List Int} {k : Nat} (h : ∀ q, q < k → x.getD q 0 = y.getD q 0) (hx : k < x.length) (hy : k < y.length) (hne : ¬ x.getD k 0 = y.getD k 0) : befL x y = decide (x.getD k 0 < y.getD k 0) := by
  rw [bef_drop h (by omega) (by omega), List.drop_eq_getElem_cons hx, List.drop_eq_getElem_cons hy]
  rw [List.getD_eq_getElem?_getD, List.getD_eq_getElem?_getD, List.getElem?_eq_getElem hx, List.getElem?_eq_getElem hy] at hne ⊢
  exact if_neg hne
/-- No way that is as quick comes before the first one. -/
theorem way_first {P : Nat} {ps : List Psg} (V : PsV P ps) {out : Int} {help : Bool} {to : Nat} {d : Nat → Int} (hd : FarOk P ps out help to d) {a c n : Nat} {l : List Nat} (W : Wk ps out help a c n l) : a < P → c = to → (n : Int) = d a → ∀ g : Nat, d a ≤ g → befL (toI l) (toI (wayG ps out help d to g a)) = false := by
  induction W with
  | nil a => intro _ _ _ g _; rfl
  | @cons a b c n k l hk ho W ih =>
    intro ha hc hn g hg
    subst hc
    by_cases e : a = c
    · subst e; rw [wayG_to]; cases toI (k :: l) <;> rfl
    · have hb2 := (oth_in V hk (a := (a : Int)) (by rw [ho]; omega)).2.1
      rw [ho] at hb2
      have hbP : b < P := by omega
      have ht := (V k hk).2.2
      have h1 := hd.least V W hbP rfl
      have h2 := hd.fix a ha k hk b ho h1.1
      have hn' : (((ps.getD k Psg.zero).ticks.toNat + n : Nat) : Int) = (ps.getD k Psg.zero).ticks + n := by omega
      have hs : stepB ps out help d a k = true := by
        unfold stepB
        simp only [Bool.and_eq_true, decide_eq_true_eq]
        rw [ho, Int.toNat_natCast]
        omega
      obtain ⟨h3, h4, h5⟩ := hd.stp V ha (by omega) e
      obtain ⟨g, rfl⟩ : ∃ m, g = m + 1 := ⟨g - 1, by omega⟩
      rw [wayG_step e rfl]
      show befL ((k : Int) :: toI l) (((stepK ps out help d a : Nat) : Int) :: toI _) = false
      rw [befL]
      by_cases e2 : k = stepK ps out help d a
      · rw [if_pos (by omega), ← e2, ho, Int.toNat_natCast]
        exact ih hbP rfl (by omega) g (by omega)
      · rw [if_neg (by omega)]
        refine decide_eq_false fun hlt => ?_
        rw [h5 k (by omega)] at hs
        cases hs

theorem toI_toNat {l : List Int} (h : ∀ q, q < l.length → 0 ≤ l.getD q 0) : toI (l.map Int.toNat) = l := by
  refine List.ext_getElem (by rw [toI_len, List.length_map]) fun k h1 h2 => ?_
  have := h k h2
  rw [List.getD_eq_getElem?_getD, List.getElem?_eq_getElem h2, Option.getD_some] at this
  show ((l.map Int.toNat).map fun (n : Nat) => (n : Int))[k]'(by rw [List.length_map, List.length_map]; exact h2) = l[k]
  rw [List.getElem_map, List.getElem_map]
  omega
theorem needL_in {P : Nat} {ps : List Psg} {out : Int} {help : Bool} {fr to : Nat} : ∀ (n m : Nat), m ∈ needL P ps out help fr to n → m < n ∧ out / 2 ^ m % 2 = 0 ∧ dst P ps (out + 2 ^ m) help to fr < 0 := by
  intro n
  induction n with
  | zero => intro m h; cases h
  | succ n ih =>
    intro m h
    rw [needL] at h
    rcases List.mem_append.1 h with h | h
    · have := ih m h; exact ⟨by omega, this.2⟩
    · split at h
      · rename_i hc
        have e := List.mem_singleton.1 h
        subst e
        unfold bitI at hc
        rw [Int.toNat_natCast] at hc
        exact ⟨by omega, hc⟩
      · cases h
theorem opn_help {out : Int} {help : Bool} {p : Psg} (h : opn out help p = true) : opn out true p = true := by
  unfold opn at h ⊢
  simp only [Bool.or_eq_true, Bool.and_eq_true, decide_eq_true_eq] at h ⊢
  rcases h with h | h
  · exact .inl h
  · exact .inr ⟨h.1, trivial⟩
theorem opn_whole {out : Int} {help : Bool} {p : Psg} (h : opn out help p = true) : opn 0 help p = true := by
  unfold opn at h ⊢
  simp only [Bool.or_eq_true, Bool.and_eq_true, decide_eq_true_eq] at h ⊢
  rcases h with (h | h) | h
  · exact .inl (.inl h)
  · refine .inl (.inr ⟨h.1, ?_⟩)
    unfold bitI
    rw [Int.zero_ediv]; rfl
  · exact .inr h
section
variable {P : Nat} {ps : List Psg} {xs : List Int} {out : Int} {help : Bool} {fr to : Nat} {l : List Int}
theorem askE_of (hst : stE P ps xs = 0) (ho : 0 ≤ out ∧ out ≤ 4095) (hfr : fr < P) (hto : to < P) : askE P ps xs out [(fr : Int), (to : Int)] = 0 := by
  unfold askE
  rw [if_neg (by omega), if_pos]
  simp only [Bool.and_eq_true, decide_eq_true_eq]
  refine ⟨ho, allN_iff.2 fun k hk => decide_eq_true ?_⟩
  match k, hk with
  | 0, _ => show 0 ≤ (fr : Int) ∧ (fr : Int) ≤ P - 1; omega
  | 1, _ => show 0 ≤ (to : Int) ∧ (to : Int) ≤ P - 1; omega
theorem wayV_ok (h : askE P ps xs out [(fr : Int), (to : Int)] = 0) (hd : 0 ≤ dst P ps out help to fr) : wayV P ps xs out help fr to = (dst P ps out help to fr, toI (wayL P ps out help fr to), 0) := by
  unfold wayV
  simp only [Int.toNat_natCast]
  rw [if_neg (by omega), if_neg (by omega)]
theorem wayV_no (h : askE P ps xs out [(fr : Int), (to : Int)] = 0) (hd : dst P ps out help to fr < 0) : wayV P ps xs out help fr to = (0, [], 3) := by
  unfold wayV
  simp only [Int.toNat_natCast]
  rw [if_neg (by omega), if_pos hd]
theorem short_no (V : StV P ps xs) (h : askE P ps xs out [(fr : Int), (to : Int)] = 0) (hfr : fr < P) (hto : to < P) (he : (wayV P ps xs out help fr to).2.2 ≠ 0) : (wayV P ps xs out help fr to).2.2 = 3 ∧ (freeV ps out help fr to l).2 = false := by
  have hP := V.size
  by_cases hd : dst P ps out help to fr < 0
  · rw [wayV_no h hd]
    refine ⟨rfl, ?_⟩
    cases hf : (freeV ps out help fr to l).2 with
    | false => rfl
    | true =>
      obtain ⟨n, _, _, W⟩ := free_is V.psv hf
      have := (far_ok (out := out) (help := help) V.psv (by omega) hto).least V.psv W hfr rfl
      omega
  · rw [wayV_ok h (by omega)] at he
    exact absurd rfl he
structure Short (P : Nat) (ps : List Psg) (xs : List Int) (out : Int) (help : Bool) (fr to : Nat) (l : List Int) : Prop where
  is : freeV ps out help fr to (wayV P ps xs out help fr to).2.1 = ((wayV P ps xs out help fr to).1, true)
  least : (freeV ps out help fr to l).2 = true → (wayV P ps xs out help fr to).1 ≤ (freeV ps out help fr to l).1
  first : (freeV ps out help fr to l).2 = true → (freeV ps out help fr to l).1 = (wayV P ps xs out help fr to).1 → befL l (wayV P ps xs out help fr to).2.1 = false
  need0 : (needV P ps xs out help fr to).2 = 0
  need : (freeV ps out help fr to l).2 = true → ∀ i, i < (needV P ps xs out help fr to).1.length → ∃ k, k < l.length ∧ (ps.getD (l.getD k 0).toNat Psg.zero).kind = 4 ∧ (ps.getD (l.getD k 0).toNat Psg.zero).mach = (needV P ps xs out help fr to).1.getD i 0
  rng : (freeV ps out help fr to l).2 = true → ∀ q, q < l.length → 0 ≤ l.getD q 0 ∧ l.getD q 0 < ps.length
  helped : (wayV P ps xs out true fr to).2.2 = 0 ∧ (wayV P ps xs out true fr to).1 ≤ (wayV P ps xs out help fr to).1
  whole : (wayV P ps xs 0 help fr to).2.2 = 0 ∧ (wayV P ps xs 0 help fr to).1 ≤ (wayV P ps xs out help fr to).1
theorem short_ok (V : StV P ps xs) (h : askE P ps xs out [(fr : Int), (to : Int)] = 0) (hfr : fr < P) (hto : to < P) (he : (wayV P ps xs out help fr to).2.2 = 0) : Short P ps xs out help fr to l := by
  have hP := V.size
  have ho := (askE_ok h).2.1
  have hF := far_ok (out := out) (help := help) V.psv (by omega) hto
  have hd : 0 ≤ dst P ps out help to fr := by
    by_cases hd : dst P ps out help to fr < 0
    · rw [wayV_no h hd] at he; cases he
    · omega
  have eW := wayV_ok h hd
  have ht : ∀ q, q < ps.length → 1 ≤ (ps.getD q Psg.zero).ticks := fun q hq => (V.psv q hq).2.2.1
  have hWay : Wk ps out help fr to (dst P ps out help to fr).toNat (wayL P ps out help fr to) := hF.way V.psv _ fr hfr hd (by omega)
  have less : ∀ {out' : Int} {help' : Bool}, askE P ps xs out' [(fr : Int), (to : Int)] = 0 → (∀ p, opn out help p = true → opn out' help' p = true) → (wayV P ps xs out' help' fr to).2.2 = 0 ∧ (wayV P ps xs out' help' fr to).1 ≤ (wayV P ps xs out help fr to).1 := by
    intro out' help' ha hop
    have h2 := (far_ok (out := out') (help := help') V.psv (by omega) hto).least V.psv (hWay.mono fun k _ => hop _) hfr rfl
    rw [wayV_ok ha h2.1, eW]
    exact ⟨rfl, by show dst P ps out' help' to fr ≤ dst P ps out help to fr; omega⟩
  refine ⟨?_, fun hf => ?_, fun hf hn => ?_, ?_, fun hf i hi => ?_, fun hf => ?_, less h (fun p => opn_help), less (askE_out h (by omega)) (fun p => opn_whole)⟩
  · rw [eW]
    have := free_yes hWay ht
    dsimp only
    rw [this]
    congr 1
    omega
  · obtain ⟨n, e, _, W⟩ := free_is V.psv hf
    rw [eW, e]
    have := hF.least V.psv W hfr rfl
    dsimp only
    omega
  · obtain ⟨n, e, hq, W⟩ := free_is V.psv hf
    rw [eW] at hn ⊢
    rw [e] at hn
    have := way_first V.psv hF W hfr rfl hn (dst P ps out help to fr).toNat (by omega)
    rw [toI_toNat (fun q hq' => (hq q hq').1)] at this
    exact this
  · unfold needV
    simp only [Int.toNat_natCast]
    rw [if_neg (by omega), if_neg (by omega)]
  · have eN : (needV P ps xs out help fr to).1 = toI (needL P ps out help fr to 12) := by
      unfold needV
      simp only [Int.toNat_natCast]
      rw [if_neg (by omega), if_neg (by omega)]
    rw [eN] at hi ⊢
    rw [toI_len] at hi
    rw [toI_getD]
    have hin := needL_in 12 _ (by
      rw [List.getD_eq_getElem?_getD, List.getElem?_eq_getElem hi]; exact List.getElem_mem hi : (needL P ps out help fr to 12).getD i 0 ∈ needL P ps out help fr to 12)
    generalize (needL P ps out help fr to 12).getD i 0 = m at hin
    obtain ⟨n, e, hq, W⟩ := free_is V.psv hf
    refine Classical.byContradiction fun hx => ?_
    have W2 := W.mono' (out' := out + 2 ^ m) (help' := help) (fun k hkl hk => opn_out V ho.1 hin.2.1 hk (fun hm => by
      obtain ⟨x, hxl, rfl⟩ := List.mem_map.1 hkl
      obtain ⟨q, hql, hqe⟩ := List.getElem_of_mem hxl
      apply hx
      refine ⟨q, hql, ?_⟩
      rw [show l.getD q 0 = x by rw [List.getD_eq_getElem?_getD, List.getElem?_eq_getElem hql, Option.getD_some, hqe]]
      exact hm))
    have := (far_ok (out := out + 2 ^ m) (help := help) V.psv (by omega) hto).least V.psv W2 hfr rfl
    omega
  · obtain ⟨n, e, hq, W⟩ := free_is V.psv hf
    exact hq
end
end Go.Proofs.Ytlmddkekeoebcaa

namespace Go.Proofs.Ytlmddkekeoebcaa
set_option linter.unusedVariables false
set_option linter.unusedSimpArgs false
open Go.RowKit

/-- An hour as it comes: with where its list of people lies. -/
structure Hr where
  out : Int
  help : Bool
  pe : List Int
  A : Option Addr
  c : Nat
def Hr.zero : Hr := ⟨0, false, [], none, 0⟩
def Hr.cell (h : Hr) : Nat → Value
  | 0 => .int .i64 h.out
  | 1 => .bool h.help
  | _ => .slice h.A h.pe.length h.c
def hrcell (l : List Hr) (k j : Nat) : Value := (l.getD k Hr.zero).cell j
/-- An hour without it. -/
structure Hq where
  out : Int
  help : Bool
  pe : List Int
def Hq.zero : Hq := ⟨0, false, []⟩
def Hr.q (h : Hr) : Hq := ⟨h.out, h.help, h.pe⟩
def hcl (l : List Hq) (DA : Nat → Option Addr) (dc : Nat → Nat) (k : Nat) : Nat → Value
  | 0 => .int .i64 (l.getD k Hq.zero).out
  | 1 => .bool (l.getD k Hq.zero).help
  | _ => .slice (DA k) (l.getD k Hq.zero).pe.length (dc k)
theorem hr_q (l : List Hr) (k : Nat) : (l.map Hr.q).getD k Hq.zero = (l.getD k Hr.zero).q := by
  rw [List.getD_eq_getElem?_getD, List.getD_eq_getElem?_getD, List.getElem?_map]
  cases l[k]? <;> rfl
theorem hrcell_hcl (l : List Hr) : hrcell l = hcl (l.map Hr.q) (fun k => (l.getD k Hr.zero).A) (fun k => (l.getD k Hr.zero).c) := by
  funext k j
  unfold hrcell Hr.cell hcl
  rw [hr_q]
  match j with
  | 0 => rfl
  | 1 => rfl
  | _ + 2 => rfl
structure Prm where
  fr : Int
  to : Int
  first : Int
  last : Int
  helped : Bool
def Prm.zero : Prm := ⟨0, 0, 0, 0, false⟩
def Prm.cell (p : Prm) : Nat → Value
  | 0 => .int .i64 p.fr
  | 1 => .int .i64 p.to
  | 2 => .int .i64 p.first
  | 3 => .int .i64 p.last
  | _ => .bool p.helped
def prcell (l : List Prm) (k j : Nat) : Value := (l.getD k Prm.zero).cell j
theorem prcell_one (l : List Prm) : ∀ k j, k < l.length → j < 5 → (prcell l k j).oneCell' = true := fun k j _ _ => by
  unfold prcell Prm.cell
  split <;> rfl

def hqOk (pl : Int) (h : Hq) : Bool := decide (0 ≤ h.out ∧ h.out ≤ 4095) && crowdOk pl h.pe
def dayOk (pl : Int) (day : List Hq) : Bool := allN (fun k => hqOk pl (day.getD k Hq.zero)) day.length && decide (day.length ≤ 48)
def dayE (pl : Int) (ps : List Psg) (xs : List Int) (day : List Hq) : Int := if stE pl ps xs ≠ 0 then stE pl ps xs else if dayOk pl day = true then 0 else 81
def prmOk (pl : Int) (p : Prm) : Bool := decide (0 ≤ p.fr ∧ p.fr ≤ pl - 1 ∧ 0 ≤ p.to ∧ p.to ≤ pl - 1 ∧ 0 ≤ p.first ∧ p.first ≤ p.last ∧ p.last < 48)
def prsOk (pl : Int) (l : List Prm) : Bool := allN (fun k => prmOk pl (l.getD k Prm.zero)) l.length && decide (l.length ≤ 40)
def keptE (pl : Int) (ps : List Psg) (xs : List Int) (day : List Hq) (l : List Prm) : Int := if dayE pl ps xs day ≠ 0 then dayE pl ps xs day else if prsOk pl l = true then 0 else 82
theorem dayE_ok {pl : Int} {ps : List Psg} {xs : List Int} {day : List Hq} (h : dayE pl ps xs day = 0) : stE pl ps xs = 0 ∧ dayOk pl day = true := by
  unfold dayE at h
  split at h
  · omega
  · split at h
    · exact ⟨by omega, by assumption⟩
    · cases h
theorem dayOk_ok {pl : Int} {day : List Hq} (h : dayOk pl day = true) : day.length ≤ 48 ∧ ∀ k, k < day.length → (0 ≤ (day.getD k Hq.zero).out ∧ (day.getD k Hq.zero).out ≤ 4095) ∧ crowdOk pl (day.getD k Hq.zero).pe = true := by
  unfold dayOk at h
  simp only [Bool.and_eq_true, decide_eq_true_eq] at h
  refine ⟨h.2, fun k hk => ?_⟩
  have := allN_iff.1 h.1 k hk
  unfold hqOk at this
  simpa using this
theorem keptE_ok {pl : Int} {ps : List Psg} {xs : List Int} {day : List Hq} {l : List Prm} (h : keptE pl ps xs day l = 0) : dayE pl ps xs day = 0 ∧ l.length ≤ 40 ∧ ∀ k, k < l.length → prmOk pl (l.getD k Prm.zero) = true := by
  unfold keptE at h
  split at h
  · omega
  · split at h
    · rename_i h1 h2
      unfold prsOk at h2
      simp only [Bool.and_eq_true, decide_eq_true_eq] at h2
      exact ⟨by omega, h2.2, allN_iff.1 h2.1⟩
    · cases h
theorem prmOk_iff {pl : Int} {p : Prm} : prmOk pl p = true ↔ (0 ≤ p.fr ∧ p.fr ≤ pl - 1 ∧ 0 ≤ p.to ∧ p.to ≤ pl - 1 ∧ 0 ≤ p.first ∧ p.first ≤ p.last ∧ p.last < 48) := by unfold prmOk; rw [decide_eq_true_eq]
/-- Whether a promise is broken in an hour. -/
noncomputable def broken (P : Nat) (ps : List Psg) (h : Hq) (n : Nat) (p : Prm) : Bool := (decide (p.first ≤ (n : Int)) && decide ((n : Int) ≤ p.last)) && decide (dst P ps h.out (h.help && p.helped) p.to.toNat p.fr.toNat < 0)
noncomputable def brokeAt (P : Nat) (ps : List Psg) (day : List Hq) (l : List Prm) (h : Nat) : Nat := fstB (fun i => broken P ps (day.getD h Hq.zero) h (l.getD i Prm.zero)) l.length
noncomputable def brokeH (P : Nat) (ps : List Psg) (day : List Hq) (l : List Prm) : Nat := fstB (fun h => decide (brokeAt P ps day l h < l.length)) day.length
/-- The hour, the promise, whether all are kept, the error. -/
noncomputable def keptV (pl : Int) (ps : List Psg) (xs : List Int) (day : List Hq) (l : List Prm) : Int × Int × Bool × Int :=
  if keptE pl ps xs day l ≠ 0 then (0, 0, false, keptE pl ps xs day l)
  else if brokeH pl.toNat ps day l < day.length then ((brokeH pl.toNat ps day l : Int), (brokeAt pl.toNat ps day l (brokeH pl.toNat ps day l) : Int), false, 0) else (0, 0, true, 0)
section
variable {P : Nat} {ps : List Psg} {xs : List Int} {day : List Hq} {l : List Prm} {h i : Nat}
theorem kept_err {pl : Int} (he : keptE pl ps xs day l ≠ 0) : keptV pl ps xs day l = (0, 0, false, keptE pl ps xs day l) := by unfold keptV; rw [if_pos he]
theorem kept_at (he : keptE P ps xs day l = 0) (hh : h < day.length) (hi : i < l.length) (h1 : ∀ q, q < h → ∀ j, j < l.length → broken P ps (day.getD q Hq.zero) q (l.getD j Prm.zero) = false) (h2 : ∀ j, j < i → broken P ps (day.getD h Hq.zero) h (l.getD j Prm.zero) = false)
    (hb : broken P ps (day.getD h Hq.zero) h (l.getD i Prm.zero) = true) : keptV P ps xs day l = ((h : Int), (i : Int), false, 0) := by
  have e1 : brokeAt P ps day l h = i := fst_at h2 hb hi
  have e2 : brokeH P ps day l = h := fst_at (fun q hq => decide_eq_false (by unfold brokeAt; rw [fst_none (h1 q hq)]; omega)) (decide_eq_true (by rw [e1]; exact hi)) hh
  unfold keptV
  rw [if_neg (by omega), Int.toNat_natCast, e2, if_pos hh, e1]
theorem kept_all (he : keptE P ps xs day l = 0) (h1 : ∀ q, q < day.length → ∀ j, j < l.length → broken P ps (day.getD q Hq.zero) q (l.getD j Prm.zero) = false) : keptV P ps xs day l = (0, 0, true, 0) := by
  have e2 : brokeH P ps day l = day.length := fst_none (fun q hq => decide_eq_false (by unfold brokeAt; rw [fst_none (h1 q hq)]; omega))
  unfold keptV
  rw [if_neg (by omega), Int.toNat_natCast, e2, if_neg (by omega)]
theorem hqOk_not {pl : Int} {k : Nat} (hk : k < day.length) (hx : hqOk pl (day.getD k Hq.zero) = false) : dayOk pl day = false := by unfold dayOk; rw [allN_false hk hx]; rfl
theorem dayOk_of {pl : Int} (h1 : allN (fun k => hqOk pl (day.getD k Hq.zero)) day.length = true) : dayOk pl day = decide (day.length ≤ 48) := by unfold dayOk; rw [h1]; rfl
theorem broke_row (h1 : ∀ q, q < h → ∀ j, j < l.length → broken P ps (day.getD q Hq.zero) q (l.getD j Prm.zero) = false) (h2 : ∀ j, j < i → broken P ps (day.getD h Hq.zero) h (l.getD j Prm.zero) = false) (hi : l.length ≤ i) :
    ∀ q, q < h + 1 → ∀ j, j < l.length → broken P ps (day.getD q Hq.zero) q (l.getD j Prm.zero) = false := fun q hq j hj => by
  by_cases e : q = h
  · subst e; exact h2 j (by omega)
  · exact h1 q (by omega) j hj
theorem no_next {f : Nat → Bool} (h : ∀ j, j < i → f j = false) (hi : f i = false) : ∀ j, j < i + 1 → f j = false := fun j hj => by
  by_cases e : j = i
  · subst e; exact hi
  · exact h j (by omega)
end
/-! an hour's people in new memory -/
section
variable {w w0 : World} {F0 : Nat → Prop} {R : List Mem} {e sz i k : Nat} {A : Nat → Option Addr} {n c : Nat → Nat} {cell : Nat → Nat → Nat → Value}
theorem ragM.none (S : St w0 F0 R w) (e sz : Nat) (A : Nat → Option Addr) (n c : Nat → Nat) (cell : Nat → Nat → Nat → Value) : St w0 F0 (ragM e sz (fun q => q < 0) A n c cell :: R) w :=
  S.new (Keeps.refl _ _) ⟨fun q hq => absurd hq (Nat.not_lt_zero q), fun q _ hq => absurd hq (Nat.not_lt_zero q)⟩ (fun b ⟨q, hq, _⟩ => absurd hq (Nat.not_lt_zero q))
theorem ragM.add {A' : Option Addr} {n' c' : Nat} {cell' : Nat → Nat → Value} (S : St w0 F0 (ownM e sz A' n' c' cell' :: R) w) (hi : R[i]? = some (ragM e sz (fun q => q < k) A n c cell)) :
    St w0 F0 (R.set i (ragM e sz (fun q => q < k + 1) (upd A k A') (upd n k n') (upd c k c') (upd cell k cell'))) w := by
  have e1 : (fun q => q < k) = (fun q => q < k + 1 ∧ q ≠ k) := by funext q; exact propext ⟨fun h => by omega, fun h => by omega⟩
  rw [e1] at hi
  exact ragM.put (D := fun q => q < k + 1) S hi (by omega)
theorem ragM.recell {n' : Nat → Nat} {A' : Nat → Option Addr} {c' : Nat → Nat} {cell' : Nat → Nat → Nat → Value} {D : Nat → Prop} (S : St w0 F0 R w) (hi : R[i]? = some (ragM e sz D A n c cell)) (h : ∀ q, D q → A q = A' q ∧ n q = n' q ∧ c q = c' q ∧ cell q = cell' q) : St w0 F0 (R.set i (ragM e sz D A' n' c' cell')) w := by
  have hrow : ∀ q, D q → ownM e sz (A' q) (n' q) (c' q) (cell' q) = ownM e sz (A q) (n q) (c q) (cell q) := fun q hq => by obtain ⟨h1, h2, h3, h4⟩ := h q hq; rw [h1, h2, h3, h4]
  refine S.imp hi (fun ⟨h1, h2⟩ => ⟨fun q hq => by rw [hrow q hq]; exact h1 q hq, fun q r hq hr hqr b hb hb' => ?_⟩) ?_
  · rw [hrow q hq] at hb; rw [hrow r hr] at hb'; exact h2 q r hq hr hqr b hb hb'
  · rintro b ⟨q, hq, hb⟩; rw [hrow q hq] at hb; exact ⟨q, hq, hb⟩
end
end Go.Proofs.Ytlmddkekeoebcaa

namespace Go.Proofs.Ytlmddkekeoebcaa
set_option linter.unusedVariables false
set_option linter.unusedSimpArgs false
set_option maxRecDepth 100000

def exW : List Psg := [⟨0, 1, 2, 3, 2, -1, 0⟩, ⟨0, 1, 3, 2, 3, 0, 4⟩, ⟨0, 1, 4, 5, 1, 1, 0⟩, ⟨1, 2, 1, 1, 4, -1, 0⟩, ⟨2, 3, 5, 2, 1, -1, 0⟩]
def exX : List Int := [2]
def exP : List Int := [10, 0, 0, 0]
theorem exW_ok : stE 4 exW exX = 0 := by decide +kernel
def exTk (i : Nat) : Int := [8, 3, 2, 0].getD i (-1)
theorem exFar : FarOk 4 exW 0 true 3 exTk := by
  have w3 : Wk exW 0 true 3 3 0 [] := Wk.nil 3
  have w2 : Wk exW 0 true 2 3 2 [4] := Wk.cons (k := 4) (by decide) (by decide +kernel) w3
  have w1 : Wk exW 0 true 1 3 3 [3, 4] := Wk.cons (k := 3) (by decide) (by decide +kernel) w2
  have w0 : Wk exW 0 true 0 3 8 [2, 3, 4] := Wk.cons (k := 2) (by decide) (by decide +kernel) w1
  refine ⟨rfl, fun i => ?_, fun i hi _ => ?_, fun i hi k hk => fixAt_of ?_, fun i hi => ?_⟩
  · unfold exTk
    match i with
    | 0 => decide
    | 1 => decide
    | 2 => decide
    | 3 => decide
    | n + 4 => exact Int.le_refl _
  · match i, hi with
    | 0, _ => exact ⟨_, w0⟩
    | 1, _ => exact ⟨_, w1⟩
    | 2, _ => exact ⟨_, w2⟩
    | 3, _ => exact ⟨_, w3⟩
  · have key : ∀ i : Nat, i < 4 → ∀ k : Nat, k < 5 → (oth 0 true (exW.getD k Psg.zero) i < 0 ∨ exTk (oth 0 true (exW.getD k Psg.zero) i).toNat < 0 ∨ (0 ≤ exTk i ∧ exTk i ≤ exTk (oth 0 true (exW.getD k Psg.zero) i).toNat + (exW.getD k Psg.zero).ticks)) := by decide +kernel
    exact key i hi k hk
  · have key : ∀ i : Nat, i < 4 → exTk i ≤ 200 := by decide +kernel
    exact key i hi
theorem exV : StV ((4 : Nat) : Int) exW exX := st_valid exW_ok
theorem ex_dst : dst 4 exW 0 true 3 0 = 8 := dst_eq exV.psv exFar (by decide)
theorem fstB_congr {f g : Nat → Bool} : ∀ {n : Nat}, (∀ q, q < n → f q = g q) → fstB f n = fstB g n := by
  intro n
  induction n with
  | zero => intro _; rfl
  | succ n ih => intro h; rw [fstB, fstB, ih (fun q hq => h q (by omega)), h n (by omega)]
theorem oth_lt {P : Nat} {ps : List Psg} (V : PsV P ps) (hP : 0 < P) {out : Int} {help : Bool} (k : Nat) (a : Int) : (oth out help (ps.getD k Psg.zero) a).toNat < P := by
  by_cases h0 : 0 ≤ oth out help (ps.getD k Psg.zero) a
  · by_cases hk : k < ps.length
    · have := (oth_in V hk h0).2.1; omega
    · exfalso
      rw [List.getD_eq_getElem?_getD, List.getElem?_eq_none (by omega)] at h0
      unfold oth at h0
      rw [if_pos (show opn out help (none.getD Psg.zero) = false from rfl)] at h0
      omega
  · omega
theorem wayG_congr {P : Nat} {ps : List Psg} (V : PsV P ps) (hP : 0 < P) {out : Int} {help : Bool} {d d' : Nat → Int} {to : Nat} (h : ∀ i, i < P → d i = d' i) : ∀ (g a : Nat), a < P → wayG ps out help d to g a = wayG ps out help d' to g a := by
  intro g
  induction g with
  | zero => intro a _; rfl
  | succ g ih =>
    intro a ha
    have hs : stepK ps out help d a = stepK ps out help d' a := fstB_congr fun q _ => by
      unfold stepB
      rw [h _ (oth_lt V hP q a), h a ha]
    unfold wayG
    rw [hs, ih _ (oth_lt V hP _ _)]
theorem ex_way : wayL 4 exW 0 true 0 3 = [2, 3, 4] := by
  unfold wayL
  rw [ex_dst, wayG_congr exV.psv (by decide) (d' := exTk) (fun i hi => dst_eq exV.psv exFar hi) _ 0 (by decide)]
  decide +kernel
/-! who leaves: the flow of seven, and what can still be reached -/
deriving instance DecidableEq for Mv
deriving instance DecidableEq for Ent
def exH : List Hd := hds 0 exX exW
def exN : Net := layN 4 4 exP exX exH
def exR : RM := (layT 4 4 exP exX exH).room
theorem exLay : LayOk 4 4 exP exX exH := lay_ok exV (by
  have key : ∀ k : Nat, k < 4 → 0 ≤ exP.getD k 0 ∧ exP.getD k 0 ≤ 1000 := by decide
  exact key)
/-- The table as lists, to be computed. -/
def joinL (T : List (List Ent)) (f t : Nat) (room : Int) (mv : Mv) : List (List Ent) := (T.set f (T.getD f [] ++ [⟨t, room, (T.getD t []).length, mv⟩])).set t (T.getD t [] ++ [⟨f, 0, (T.getD f []).length, Mv.none⟩])
def joinsL (n : Nat) (J : List Jn) : List (List Ent) := J.foldl (fun T j => joinL T j.f j.t j.room j.mv) (List.replicate n [])
theorem getD_set {l : List (List Ent)} {k i : Nat} {v : List Ent} (hk : k < l.length) : (l.set k v).getD i [] = if i = k then v else l.getD i [] := by
  rw [List.getD_eq_getElem?_getD, List.getElem?_set, List.getD_eq_getElem?_getD]
  by_cases h : k = i
  · subst h; rw [if_pos rfl, if_pos rfl, if_pos hk]; rfl
  · rw [if_neg h, if_neg (fun e => h e.symm)]
theorem joinsL_at (n : Nat) : ∀ (J : List Jn), (∀ j ∈ J, j.f < n ∧ j.t < n) → ∀ (U : Tab) (T : List (List Ent)), T.length = n → (∀ i, U i = T.getD i []) → ∀ i, (J.foldl (fun T j => joinT T j.f j.t j.room j.mv) U) i = (J.foldl (fun T j => joinL T j.f j.t j.room j.mv) T).getD i [] := by
  intro J
  induction J with
  | nil => intro _ U T _ h i; exact h i
  | cons j J ih =>
    intro hJ U T hT h i
    have hj := hJ j (List.mem_cons_self ..)
    rw [List.foldl_cons, List.foldl_cons]
    refine ih (fun x hx => hJ x (List.mem_cons_of_mem _ hx)) _ _ (by unfold joinL; rw [List.length_set, List.length_set, hT]) (fun q => ?_) i
    unfold joinT joinL upd
    rw [getD_set (by rw [List.length_set, hT]; exact hj.2), getD_set (by rw [hT]; exact hj.1), h j.f, h j.t, h q]
theorem joins_eq {n : Nat} {J : List Jn} (hJ : ∀ j ∈ J, j.f < n ∧ j.t < n) {L : List (List Ent)} (hL : joinsL n J = L) : joins J = fun i => L.getD i [] := by
  funext i
  subst hL
  exact joinsL_at n J hJ _ _ (List.length_replicate ..) (fun i => by rw [List.getD_eq_getElem?_getD, List.getElem?_replicate]; split <;> rfl) i
def exE (to : Nat) (room : Int) (back : Nat) (pas fr at_ : Int) : Ent := ⟨to, room, back, ⟨pas, fr, at_, 0⟩⟩
def exL : List (List Ent) := [[exE 20 0 0 (-1) 0 0, exE 4 1099511627776 0 (-1) 0 0, exE 13 2 2 0 0 0, exE 9 3 2 1 0 0],
  [exE 20 0 1 (-1) 0 0, exE 5 1099511627776 0 (-1) 0 0, exE 12 2 2 0 1 0, exE 6 4 3 3 1 0],
  [exE 20 0 2 (-1) 0 0, exE 6 1099511627776 0 (-1) 0 0, exE 21 1099511627776 0 (-1) 0 0],
  [exE 20 0 3 (-1) 0 0, exE 7 1099511627776 0 (-1) 0 0, exE 10 1 4 4 3 0],
  [exE 0 0 1 (-1) 0 0, exE 8 1099511627776 0 (-1) 0 0, exE 17 2 1 0 0 1, exE 13 3 3 1 0 1],
  [exE 1 0 1 (-1) 0 0, exE 9 1099511627776 0 (-1) 0 0, exE 16 2 1 0 1 1, exE 10 4 3 3 1 1],
  [exE 2 0 1 (-1) 0 0, exE 10 1099511627776 0 (-1) 0 0, exE 21 1099511627776 1 (-1) 0 0, exE 1 0 3 (-1) 0 0],
  [exE 3 0 1 (-1) 0 0, exE 11 1099511627776 0 (-1) 0 0, exE 14 1 4 4 3 1],
  [exE 4 0 1 (-1) 0 0, exE 12 1099511627776 0 (-1) 0 0, exE 17 3 2 1 0 2],
  [exE 5 0 1 (-1) 0 0, exE 13 1099511627776 0 (-1) 0 0, exE 0 0 3 (-1) 0 0, exE 14 4 3 3 1 2],
  [exE 6 0 1 (-1) 0 0, exE 14 1099511627776 0 (-1) 0 0, exE 21 1099511627776 2 (-1) 0 0, exE 5 0 3 (-1) 0 0, exE 3 0 2 (-1) 0 0],
  [exE 7 0 1 (-1) 0 0, exE 15 1099511627776 0 (-1) 0 0, exE 18 1 3 4 3 2],
  [exE 8 0 1 (-1) 0 0, exE 16 1099511627776 0 (-1) 0 0, exE 1 0 2 (-1) 0 0],
  [exE 9 0 1 (-1) 0 0, exE 17 1099511627776 0 (-1) 0 0, exE 0 0 2 (-1) 0 0, exE 4 0 3 (-1) 0 0, exE 18 4 2 3 1 3],
  [exE 10 0 1 (-1) 0 0, exE 18 1099511627776 0 (-1) 0 0, exE 21 1099511627776 3 (-1) 0 0, exE 9 0 3 (-1) 0 0, exE 7 0 2 (-1) 0 0],
  [exE 11 0 1 (-1) 0 0, exE 19 1099511627776 0 (-1) 0 0],
  [exE 12 0 1 (-1) 0 0, exE 5 0 2 (-1) 0 0],
  [exE 13 0 1 (-1) 0 0, exE 4 0 2 (-1) 0 0, exE 8 0 2 (-1) 0 0],
  [exE 14 0 1 (-1) 0 0, exE 21 1099511627776 4 (-1) 0 0, exE 13 0 4 (-1) 0 0, exE 11 0 2 (-1) 0 0],
  [exE 15 0 1 (-1) 0 0],
  [exE 0 10 0 (-1) 0 0, exE 1 0 0 (-1) 0 0, exE 2 0 0 (-1) 0 0, exE 3 0 0 (-1) 0 0],
  [exE 2 0 2 (-1) 0 0, exE 6 0 2 (-1) 0 0, exE 10 0 2 (-1) 0 0, exE 14 0 2 (-1) 0 0, exE 18 0 1 (-1) 0 0]]
theorem exL_eq : joinsL 22 (jAll 4 4 exP exX exH) = exL := by decide +kernel
theorem exJ_ok : ∀ j ∈ jAll 4 4 exP exX exH, j.f < 22 ∧ j.t < 22 := by decide +kernel
def exT : Tab := fun i => exL.getD i []
theorem exT_eq : layT 4 4 exP exX exH = exT := joins_eq exJ_ok exL_eq
theorem exN_eq : layN 4 4 exP exX exH = exT.net 22 := by unfold layN; rw [exT_eq]
def exR1 : RM := along (exT.net 22) exT.room 14 2 3
def exR2 : RM := along (exT.net 22) exR1 9 3 3
def exR3 : RM := along (exT.net 22) exR2 0 3 3
def exR4 : RM := along (exT.net 22) exR3 20 0 3
def exR5 : RM := along (exT.net 22) exR4 18 1 3
def exR6 : RM := along (exT.net 22) exR5 13 4 3
def exR7 : RM := along (exT.net 22) exR6 4 3 3
def exR8 : RM := along (exT.net 22) exR7 0 1 3
def exR9 : RM := along (exT.net 22) exR8 20 0 3
def exR10 : RM := along (exT.net 22) exR9 18 1 1
def exR11 : RM := along (exT.net 22) exR10 13 4 1
def exR12 : RM := along (exT.net 22) exR11 0 2 1
def exR13 : RM := along (exT.net 22) exR12 20 0 1
theorem exWf : (exT.net 22).Wf := by have h := exLay.wf; rw [exN_eq] at h; exact h
theorem exTOk : Ok (exT.net 22) exT.room 2199023255552 := by have h := exLay.ok; rw [exN_eq, exT_eq] at h; exact h
theorem exS1_0 : Fl (exT.net 22) exT.room exT.room 21 21 3 := Fl.here exTOk
theorem exS1_1 : Fl (exT.net 22) exT.room exR1 14 21 3 := Fl.step exWf (a := 14) (b := 2) (by decide +kernel) (by decide +kernel) exS1_0 (by decide) (by decide +kernel)
theorem exS1_2 : Fl (exT.net 22) exT.room exR2 9 21 3 := Fl.step exWf (a := 9) (b := 3) (by decide +kernel) (by decide +kernel) exS1_1 (by decide) (by decide +kernel)
theorem exS1_3 : Fl (exT.net 22) exT.room exR3 0 21 3 := Fl.step exWf (a := 0) (b := 3) (by decide +kernel) (by decide +kernel) exS1_2 (by decide) (by decide +kernel)
theorem exS1_4 : Fl (exT.net 22) exT.room exR4 20 21 3 := Fl.step exWf (a := 20) (b := 0) (by decide +kernel) (by decide +kernel) exS1_3 (by decide) (by decide +kernel)
theorem exF1 : Fl (exT.net 22) exT.room exR4 20 21 3 := exS1_4
theorem exS2_0 : Fl (exT.net 22) exR4 exR4 21 21 3 := Fl.here (exF1.ok exTOk)
theorem exS2_1 : Fl (exT.net 22) exR4 exR5 18 21 3 := Fl.step exWf (a := 18) (b := 1) (by decide +kernel) (by decide +kernel) exS2_0 (by decide) (by decide +kernel)
theorem exS2_2 : Fl (exT.net 22) exR4 exR6 13 21 3 := Fl.step exWf (a := 13) (b := 4) (by decide +kernel) (by decide +kernel) exS2_1 (by decide) (by decide +kernel)
theorem exS2_3 : Fl (exT.net 22) exR4 exR7 4 21 3 := Fl.step exWf (a := 4) (b := 3) (by decide +kernel) (by decide +kernel) exS2_2 (by decide) (by decide +kernel)
theorem exS2_4 : Fl (exT.net 22) exR4 exR8 0 21 3 := Fl.step exWf (a := 0) (b := 1) (by decide +kernel) (by decide +kernel) exS2_3 (by decide) (by decide +kernel)
theorem exS2_5 : Fl (exT.net 22) exR4 exR9 20 21 3 := Fl.step exWf (a := 20) (b := 0) (by decide +kernel) (by decide +kernel) exS2_4 (by decide) (by decide +kernel)
theorem exF2 : Fl (exT.net 22) exT.room exR9 20 21 6 := exF1.more exS2_5
theorem exS3_0 : Fl (exT.net 22) exR9 exR9 21 21 1 := Fl.here (exF2.ok exTOk)
theorem exS3_1 : Fl (exT.net 22) exR9 exR10 18 21 1 := Fl.step exWf (a := 18) (b := 1) (by decide +kernel) (by decide +kernel) exS3_0 (by decide) (by decide +kernel)
theorem exS3_2 : Fl (exT.net 22) exR9 exR11 13 21 1 := Fl.step exWf (a := 13) (b := 4) (by decide +kernel) (by decide +kernel) exS3_1 (by decide) (by decide +kernel)
theorem exS3_3 : Fl (exT.net 22) exR9 exR12 0 21 1 := Fl.step exWf (a := 0) (b := 2) (by decide +kernel) (by decide +kernel) exS3_2 (by decide) (by decide +kernel)
theorem exS3_4 : Fl (exT.net 22) exR9 exR13 20 21 1 := Fl.step exWf (a := 20) (b := 0) (by decide +kernel) (by decide +kernel) exS3_3 (by decide) (by decide +kernel)
theorem exF3 : Fl (exT.net 22) exT.room exR13 20 21 7 := exF2.more exS3_4
def exLv (i : Nat) : Int := [1, -1, -1, -1, 2, -1, -1, -1, 3, -1, -1, -1, 4, 2, -1, -1, 5, 3, -1, -1, 0, -1].getD i (-1)
theorem exLev : LevOk (exT.net 22) exR13 20 exLv := by
  have h1 : ∀ v, v < 22 → -1 ≤ exLv v ∧ exLv v < 22 := by decide +kernel
  have h2 : ∀ u, u < 22 → 0 ≤ exLv u → ∀ j, j < (exT.net 22).n u → 0 < exR13 u j → 0 ≤ exLv ((exT.net 22).to u j) := by decide +kernel
  have h3 : ∀ v, v < 22 → 0 ≤ exLv v → v = 20 ∨ ∃ u, u < 22 ∧ ∃ j, j < (exT.net 22).n u ∧ 0 ≤ exLv u ∧ 0 < exR13 u j ∧ (exT.net 22).to u j = v ∧ exLv v = exLv u + 1 := by decide +kernel
  exact ⟨rfl, h1, h2, h3⟩
theorem exEnd : EndP 4 4 exP exX exH 7 exR13 exLv := by
  have hN := exN_eq
  have hT := exT_eq
  refine ⟨?_, by decide, ?_, by decide⟩
  · rw [hN, hT]; exact exF3
  · rw [hN]; exact exLev
theorem ex_cut : ∀ p, p < 4 → mfc 4 4 exP exX (hds 0 exX exW) p = [0, 3, 5, 5].getD p 0 := fun p hp => by
  have h := mfc_eq exLay exEnd hp
  unfold exH at h
  rw [h]
  have key : ∀ p, p < 4 → cutAt 4 4 exLv p = [0, 3, 5, 5].getD p 0 := by decide +kernel
  exact key p hp
end Go.Proofs.Ytlmddkekeoebcaa
