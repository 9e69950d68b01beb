/- Chapter 8: the document's net of a station, and that it takes just what the program's takes. -/
import Derived.Test.YtdepakimbagonaaRfl
namespace Go.Proofs.Ytdepakimbagonaa
set_option linter.unusedVariables false
set_option linter.unusedSimpArgs false

/-! ## the document's joins -/
def farI : Int := 1073741824
def goneI (out : Int) (p : Psg) (place : Int) : Int :=
  if othr p place < 0 ∨ p.kind = 4 then -1 else if p.kind = 3 ∧ bitI out p.mach = 1 then p.still else if p.kind = 3 ∧ place = p.b then -1 else p.ticks
def endI (p : Psg) (k : Nat) : Int := if k = 0 then p.a else p.b
/-! ## what goes across a set -/
def cr (S : Nat → Bool) (f t : Nat) (c : Int) : Int := if S f = true ∧ S t = false then c else 0
theorem capJ_cons (S : Nat → Bool) (j : Jn) (J : List Jn) : capJ S (j :: J) = cr S j.f j.t j.room + capJ S J := rfl
theorem cr_nn {S : Nat → Bool} {f t : Nat} {c : Int} (h : 0 ≤ c) : 0 ≤ cr S f t c := by unfold cr; split <;> omega
def onP (P : Nat) (S : Nat → Bool) (p t : Nat) : Bool := S (nd P t p)
/-- What a direction takes. -/
def hC (U : Nat → Nat → Bool) (T : Nat) (f t : Nat) (d : Int) (c : Int) (tick : Nat) : Int := if (tick : Int) + d ≤ T ∧ U f tick = true ∧ U t (tick + d.toNat) = false then c else 0
/-- The directions of a passage, as the document goes through them. -/
def pC (U : Nat → Nat → Bool) (T : Nat) (xs : List Int) (out : Int) (p : Psg) (tick k : Nat) : Int := if 0 ≤ goneI out p (endI p k) ∧ hasI xs (endI p k) = false then hC U T (endI p k).toNat (endI p (1 - k)).toNat (goneI out p (endI p k)) p.wide tick else 0
def headC (U : Nat → Nat → Bool) (T : Nat) (xs : List Int) (out : Int) (ps : List Psg) : Int := sm (fun t => sm (fun i => pC U T xs out (ps.getD i Psg.zero) t 0 + pC U T xs out (ps.getD i Psg.zero) t 1) ps.length) (T + 1)
def begC (U : Nat → Nat → Bool) (pe : List Int) (P : Nat) : Int := sm (fun p => if U p 0 = false then pe.getD p 0 else 0) P
/-- No edge without a bound leads out. -/
def Tight (U : Nat → Nat → Bool) (P T : Nat) (xs : List Int) : Prop := ∀ p, p < P → (hasI xs p = true → ∀ t, t ≤ T → U p t = false) ∧ (hasI xs p = false → ∀ t, t < T → U p t = true → U p (t + 1) = true)
section
variable {P T : Nat} {pe xs : List Int} {out : Int} {ps : List Psg} {S : Nat → Bool}
theorem cr_one {f t : Nat} {c : Int} {mv : Mv} : capJ S [⟨f, t, c, mv⟩] = cr S f t c := by rw [capJ_cons]; exact Int.add_zero _
theorem sm_swap {f : Nat → Nat → Int} {m : Nat} : ∀ {n : Nat}, sm (fun i => sm (fun j => f i j) m) n = sm (fun j => sm (fun i => f i j) n) m := by
  intro n
  induction n with
  | zero => exact (sm_zero fun _ _ => rfl).symm
  | succ n ih => rw [sm, ih, ← sm_add]; exact sm_congr fun j _ => rfl
theorem jHeadN_cap {h : Hd} : ∀ n, capJ S (jHeadN P h n) = sm (fun t => cr S (nd P t h.fr.toNat) (nd P (t + h.ticks.toNat) h.to.toNat) h.wide) n := by
  intro n
  induction n with
  | zero => rfl
  | succ n ih =>
    have e : jHeadN P h (n + 1) = jHeadN P h n ++ [jHead P h n] := range_snoc n
    rw [e, capJ_append, ih, sm]
    congr 1
    exact cr_one
theorem sm_cut {f : Nat → Int} {m : Nat} : ∀ {n : Nat}, m ≤ n → sm (fun t => if t < m then f t else 0) n = sm f m := by
  intro n
  induction n with
  | zero => intro h; have : m = 0 := by omega
            subst this; rfl
  | succ n ih =>
    intro h
    rw [sm]
    by_cases e : m = n + 1
    · subst e; rw [if_pos (by omega), sm]; congr 1; exact sm_congr fun i hi => if_pos (by omega)
    · rw [ih (by omega), if_neg (by omega)]; omega
theorem jHead_cap {h : Hd} (h1 : 1 ≤ h.ticks) : capJ S (jHeadN P h (T + 1 - h.ticks.toNat)) = sm (hC (onP P S) T h.fr.toNat h.to.toNat h.ticks h.wide) (T + 1) := by
  rw [jHeadN_cap, ← sm_cut (n := T + 1) (by omega)]
  refine sm_congr fun t ht => ?_
  unfold hC cr onP
  by_cases h2 : t < T + 1 - h.ticks.toNat
  · rw [if_pos h2]
    by_cases h3 : S (nd P t h.fr.toNat) = true ∧ S (nd P (t + h.ticks.toNat) h.to.toNat) = false
    · rw [if_pos h3, if_pos ⟨by omega, h3⟩]
    · rw [if_neg h3, if_neg (fun h => h3 h.2)]
  · rw [if_neg h2, if_neg (fun h => by omega)]
/-- What a list of directions takes. -/
def hdC (U : Nat → Nat → Bool) (T : Nat) : List Hd → Int
  | [] => 0
  | h :: l => sm (hC U T h.fr.toNat h.to.toNat h.ticks h.wide) (T + 1) + hdC U T l
theorem hdC_append {U : Nat → Nat → Bool} {l l' : List Hd} : hdC U T (l ++ l') = hdC U T l + hdC U T l' := by
  induction l with
  | nil => simp [hdC]
  | cons h l ih => simp only [List.cons_append, hdC, ih]; omega
theorem jHeads_cap {hs : List Hd} (hh : ∀ i, i < hs.length → HdOk P (hs.getD i Hd.zero)) : ∀ n, n ≤ hs.length → capJ S (jHeads P T hs n) = hdC (onP P S) T (hs.take n) := by
  intro n
  induction n with
  | zero => intro _; simp [jHeads, capJ, hdC]
  | succ n ih =>
    intro hn
    have h1 := hh n (by omega)
    unfold HdOk at h1
    rw [jHeads, capJ_append, ih (by omega), jHead_cap (by omega), List.take_succ_eq_append_getElem (by omega), hdC_append]
    congr 1
    rw [List.getD_eq_getElem?_getD, List.getElem?_eq_getElem (by omega)]
    simp [hdC]
theorem sm_nil {n : Nat} : sm (fun _ => (0 : Int)) n = 0 := sm_zero fun _ _ => rfl
theorem hdsOf_cap {U : Nat → Nat → Bool} {k : Nat} (V : StV P ps xs) (hk : k < ps.length) (ho : 0 ≤ out) : hdC U T (hdsOf out xs k (ps.getD k Psg.zero)) = sm (fun t => pC U T xs out (ps.getD k Psg.zero) t 0 + pC U T xs out (ps.getD k Psg.zero) t 1) (T + 1) := by
  have hp := psgOk_iff.1 (V.pas k hk)
  rw [sm_add]
  generalize ps.getD k Psg.zero = p at hp
  have hab : ¬ p.b = p.a := fun h => hp.2.2.2.2.1 h.symm
  have hab' : ¬ p.a = p.b := fun h => hp.2.2.2.2.1 h
  have bt : bitI out p.mach = 0 ∨ bitI out p.mach = 1 := by unfold bitI; omega
  unfold hdsOf
  by_cases h4 : p.kind = 4
  · rw [if_pos h4]
    have z : ∀ k, goneI out p (endI p k) = -1 := fun k => by unfold goneI; rw [if_pos (.inr h4)]
    have e : ∀ k t, pC U T xs out p t k = 0 := fun k t => by unfold pC; rw [z k, if_neg (fun h => by omega)]
    simp only [hdC, e, sm_nil]
    rfl
  · rw [if_neg h4, hdC_append]
    have oA : othr p (endI p 0) = p.b := by unfold othr endI; rw [if_pos rfl]; simp
    have oB : othr p (endI p 1) = p.a := by unfold othr endI; simp only [Nat.one_ne_zero, if_false]; rw [if_neg hab']; simp
    have gA : goneI out p (endI p 0) = hdTicks out p := by
      unfold goneI hdTicks
      rw [oA, if_neg (by omega)]
      by_cases h3 : p.kind = 3 ∧ bitI out p.mach = 1
      · rw [if_pos h3, if_pos ⟨h3.1, by omega⟩]
      · rw [if_neg h3, if_neg (fun h => hab' h.2), if_neg (fun h => h3 ⟨h.1, by omega⟩)]
    have ht : 1 ≤ hdTicks out p := by unfold hdTicks; split <;> omega
    congr 1
    · unfold hdsA
      by_cases hx : hasI xs p.a = true
      · rw [if_pos hx]
        have e : ∀ t, pC U T xs out p t 0 = 0 := fun t => by unfold pC; rw [if_neg (fun h => by have h2 := h.2; unfold endI at h2; rw [if_pos rfl, hx] at h2; cases h2)]
        simp only [hdC, e, sm_nil]
      · rw [if_neg hx]
        have e : ∀ t, pC U T xs out p t 0 = hC U T p.a.toNat p.b.toNat (hdTicks out p) p.wide t := fun t => by
          unfold pC
          rw [gA, if_pos ⟨by omega, by unfold endI; rw [if_pos rfl]; simpa using hx⟩]
          rfl
        simp only [hdC, e]
        exact Int.add_zero _
    · unfold hdsB
      by_cases hb : (hdBack out p && !hasI xs p.b) = true
      · rw [if_pos hb]
        simp only [Bool.and_eq_true, Bool.not_eq_true'] at hb
        have h3 : ¬ (p.kind = 3 ∧ bitI out p.mach = 0) := fun h => by
          have := hb.1
          unfold hdBack at this
          rw [decide_eq_true h.1, decide_eq_true h.2] at this
          cases this
        have gB : goneI out p (endI p 1) = hdTicks out p := by
          unfold goneI hdTicks
          rw [oB, if_neg (by omega)]
          by_cases h5 : p.kind = 3 ∧ bitI out p.mach = 1
          · rw [if_pos h5, if_pos ⟨h5.1, by omega⟩]
          · rw [if_neg h5, if_neg (fun h => h3 ⟨h.1, by have h6 : ¬ bitI out p.mach = 1 := fun e => h5 ⟨h.1, e⟩; omega⟩), if_neg (fun h => h5 ⟨h.1, by omega⟩)]
        have e : ∀ t, pC U T xs out p t 1 = hC U T p.b.toNat p.a.toNat (hdTicks out p) p.wide t := fun t => by
          unfold pC
          rw [gB, if_pos ⟨by omega, hb.2⟩]
          rfl
        simp only [hdC, e]
        exact Int.add_zero _
      · rw [if_neg hb]
        have e : ∀ t, pC U T xs out p t 1 = 0 := fun t => by
          unfold pC
          refine if_neg fun h => hb ?_
          have hx : hasI xs p.b = false := h.2
          rw [hx]
          have h1 := h.1
          unfold goneI at h1
          rw [oB, if_neg (by omega)] at h1
          unfold hdBack
          by_cases h3 : p.kind = 3
          · by_cases h5 : bitI out p.mach = 1
            · rw [decide_eq_false (p := bitI out p.mach = 0) (by omega), Bool.and_false]; rfl
            · rw [if_neg (fun h => h5 h.2), if_pos ⟨h3, rfl⟩] at h1
              omega
          · rw [decide_eq_false h3]; rfl
        simp only [hdC, e, sm_nil]
theorem hds_cap {U : Nat → Nat → Bool} (V : StV P ps xs) (ho : 0 ≤ out) : hdC U T (hds out xs ps) = headC U T xs out ps := by
  have key : ∀ n, n ≤ ps.length → hdC U T (hdsTo out xs ps n) = sm (fun i => sm (fun t => pC U T xs out (ps.getD i Psg.zero) t 0 + pC U T xs out (ps.getD i Psg.zero) t 1) (T + 1)) n := by
    intro n
    induction n with
    | zero => intro _; rfl
    | succ n ih => intro hn; rw [hdsTo, hdC_append, ih (by omega), hdsOf_cap V (by omega) ho]; rfl
  unfold headC hds
  rw [key _ (Nat.le_refl _), sm_swap]
theorem heads_P (V : StV P ps xs) (ho : 0 ≤ out) : capJ S (jHeads P T (hds out xs ps) (hds out xs ps).length) = headC (onP P S) T xs out ps := by
  rw [jHeads_cap (hds_ok V) _ (Nat.le_refl _), List.take_length, hds_cap V ho]
/-! ## places -/
theorem waits_cap {p : Nat} : ∀ n, capJ S (jWaits P p n) = sm (fun t => cr S (nd P t p) (nd P (t + 1) p) plenty) n := by
  intro n
  induction n with
  | zero => rfl
  | succ n ih =>
    have e : jWaits P p (n + 1) = jWaits P p n ++ [jWait P p n] := range_snoc n
    rw [e, capJ_append, ih, sm]
    congr 1
    exact cr_one
theorem exits_cap {p : Nat} : ∀ n, capJ S (jExits P T p n) = sm (fun t => cr S (nd P t p) (P * (T + 1) + 1) plenty) n := by
  intro n
  induction n with
  | zero => rfl
  | succ n ih =>
    have e : jExits P T p (n + 1) = jExits P T p n ++ [jExit P T p n] := range_snoc n
    rw [e, capJ_append, ih, sm]
    congr 1
    exact cr_one
def plC (P T : Nat) (xs : List Int) (S : Nat → Bool) (p : Nat) : Int := sm (fun t => cr S (nd P t p) (nd P (t + 1) p) plenty) T + (if hasI xs p = true then sm (fun t => cr S (nd P t p) (P * (T + 1) + 1) plenty) (T + 1) else 0)
theorem placesP : ∀ n, capJ S (jPlaces P T pe xs n) = sm (fun p => cr S (P * (T + 1)) (nd P 0 p) (pe.getD p 0) + plC P T xs S p) n := by
  intro n
  induction n with
  | zero => rfl
  | succ n ih =>
    rw [jPlaces, capJ_append, ih, sm]
    congr 1
    unfold jPlace
    rw [capJ_cons, capJ_append, waits_cap]
    unfold plC
    congr 2
    split
    · exact exits_cap _
    · rfl
theorem plC_nn {p : Nat} : 0 ≤ plC P T xs S p := by
  unfold plC
  have h1 := sm_nonneg (f := fun t => cr S (nd P t p) (nd P (t + 1) p) plenty) (n := T) (fun t _ => cr_nn (by decide))
  have h2 := sm_nonneg (f := fun t => cr S (nd P t p) (P * (T + 1) + 1) plenty) (n := T + 1) (fun t _ => cr_nn (by decide))
  split <;> omega
theorem cap_P (V : StV P ps xs) (ho : 0 ≤ out) (hpe : ∀ p, p < P → 0 ≤ pe.getD p 0) (hb : S (P * (T + 1)) = true) (hx : S (P * (T + 1) + 1) = false) :
    (Tight (onP P S) P T xs → capJ S (jAll P T pe xs (hds out xs ps)) = begC (onP P S) pe P + headC (onP P S) T xs out ps) ∧ (¬ Tight (onP P S) P T xs → farI ≤ capJ S (jAll P T pe xs (hds out xs ps))) := by
  have hw : ∀ i, i < ps.length → 0 ≤ (ps.getD i Psg.zero).wide := fun i hi => by have := psgOk_iff.1 (V.pas i hi); omega
  have hbeg : ∀ p, cr S (P * (T + 1)) (nd P 0 p) (pe.getD p 0) = if onP P S p 0 = false then pe.getD p 0 else 0 := fun p => by
    unfold cr onP
    by_cases h : S (nd P 0 p) = false
    · rw [if_pos ⟨hb, h⟩, if_pos h]
    · rw [if_neg (fun h2 => h h2.2), if_neg h]
  have hhn : 0 ≤ headC (onP P S) T xs out ps := sm_nonneg fun t _ => sm_nonneg fun i hi => by
    have := hw i hi
    have key : ∀ k, 0 ≤ pC (onP P S) T xs out (ps.getD i Psg.zero) t k := fun k => by unfold pC hC; split; (split <;> omega); omega
    have h0 := key 0
    have h1 := key 1
    omega
  unfold jAll
  rw [capJ_append, heads_P V ho, placesP]
  refine ⟨fun ht => ?_, fun hn => ?_⟩
  · congr 1
    unfold begC
    refine sm_congr fun p hp => ?_
    have h1 := ht p hp
    have hz : plC P T xs S p = 0 := by
      unfold plC
      have e1 : sm (fun t => cr S (nd P t p) (nd P (t + 1) p) plenty) T = 0 := sm_zero fun t htT => by
        unfold cr
        rw [if_neg]
        rintro ⟨h2, h3⟩
        by_cases he : hasI xs p = true
        · have := h1.1 he t (by omega); unfold onP at this; rw [h2] at this; cases this
        · have := h1.2 (by simpa using he) t htT h2; unfold onP at this; rw [h3] at this; cases this
      rw [e1]
      split
      · rename_i he
        rw [sm_zero fun t htT => ?_]
        · rfl
        · unfold cr
          rw [if_neg]
          rintro ⟨h2, _⟩
          have := h1.1 he t (by omega); unfold onP at this; rw [h2] at this; cases this
      · rfl
    rw [hbeg, hz]
    omega
  · have : ∃ p, p < P ∧ plenty ≤ plC P T xs S p := by
      refine Classical.byContradiction fun hno => hn fun p hp => ⟨fun he t ht => ?_, fun he t ht h1 => ?_⟩
      · cases hs : onP P S p t with
        | false => rfl
        | true =>
          exfalso
          apply hno
          refine ⟨p, hp, ?_⟩
          unfold plC
          rw [if_pos he]
          have h2 := sm_mem (f := fun t => cr S (nd P t p) (P * (T + 1) + 1) plenty) (n := T + 1) (fun t _ => cr_nn (by decide)) (p := t) (by omega)
          have h3 := sm_nonneg (f := fun t => cr S (nd P t p) (nd P (t + 1) p) plenty) (n := T) (fun t _ => cr_nn (by decide))
          have h4 : cr S (nd P t p) (P * (T + 1) + 1) plenty = plenty := if_pos ⟨hs, hx⟩
          omega
      · cases hs : onP P S p (t + 1) with
        | true => rfl
        | false =>
          exfalso
          apply hno
          refine ⟨p, hp, ?_⟩
          unfold plC
          have h2 := sm_mem (f := fun t => cr S (nd P t p) (nd P (t + 1) p) plenty) (n := T) (fun t _ => cr_nn (by decide)) (p := t) ht
          have h3 := sm_nonneg (f := fun t => cr S (nd P t p) (P * (T + 1) + 1) plenty) (n := T + 1) (fun t _ => cr_nn (by decide))
          have h4 : cr S (nd P t p) (nd P (t + 1) p) plenty = plenty := if_pos ⟨h1, hs⟩
          split <;> omega
    obtain ⟨p, hp, h2⟩ := this
    have h4 := sm_mem (f := fun p => cr S (P * (T + 1)) (nd P 0 p) (pe.getD p 0) + plC P T xs S p) (n := P) (fun q hq => by
      have h5 := cr_nn (S := S) (f := P * (T + 1)) (t := nd P 0 q) (hpe q hq)
      have h6 := plC_nn (P := P) (T := T) (xs := xs) (S := S) (p := q)
      omega) hp
    have h5 := cr_nn (S := S) (f := P * (T + 1)) (t := nd P 0 p) (hpe p hp)
    have h6 : farI ≤ plenty := by decide
    omega
end

/-! ## both nets -/
def toP (P T : Nat) (n : Nat) : Nat := if n < P * (T + 1) then nd P (n % (T + 1)) (n / (T + 1)) else n
section
variable {P T : Nat} {pe xs : List Int} {out : Int} {ps : List Psg} {S : Nat → Bool}
theorem begC_congr {U U' : Nat → Nat → Bool} (h : ∀ p, p < P → ∀ t, t ≤ T → U p t = U' p t) : begC U pe P = begC U' pe P := sm_congr fun p hp => by rw [h p hp 0 (by omega)]
theorem headC_congr {U U' : Nat → Nat → Bool} (V : StV P ps xs) (h : ∀ p, p < P → ∀ t, t ≤ T → U p t = U' p t) : headC U T xs out ps = headC U' T xs out ps := sm_congr fun t ht => sm_congr fun i hi => by
  have hp := psgOk_iff.1 (V.pas i hi)
  have key : ∀ k, pC U T xs out (ps.getD i Psg.zero) t k = pC U' T xs out (ps.getD i Psg.zero) t k := fun k => by
    have e : ∀ k, (endI (ps.getD i Psg.zero) k).toNat < P := fun k => by unfold endI; split <;> omega
    unfold pC
    split
    · rename_i h0
      unfold hC
      by_cases h1 : (t : Int) + goneI out (ps.getD i Psg.zero) (endI (ps.getD i Psg.zero) k) ≤ T
      · rw [h _ (e k) t (by omega), h _ (e (1 - k)) _ (by omega)]
      · rw [if_neg (fun h => h1 h.1), if_neg (fun h => h1 h.1)]
    · rfl
  rw [key 0, key 1]
end
section
variable {P T : Nat} {pe xs : List Int} {out : Int} {ps : List Psg} {S : Nat → Bool} {v v' : Int} {r r' : RM} {L L' : Nat → Int}
theorem EndN.toP {hs : List Hd} (h : EndN (layN P T pe xs hs) (layT P T pe xs hs).room (P * (T + 1)) (P * (T + 1) + 1) v r L) : EndP P T pe xs hs v r L := ⟨h.fl, h.nn, h.lev, h.full⟩
theorem endP_ex {hs : List Hd} (O : LayOk P T pe xs hs) : ∃ v r L, EndP P T pe xs hs v r L := by
  obtain ⟨v, r, L, h⟩ := end_ex O.wf O.ok (b := P * (T + 1)) (x := P * (T + 1) + 1) (by show _ < P * (T + 1) + 2; omega) (by show _ < P * (T + 1) + 2; omega) (by omega)
  exact ⟨v, r, L, h.toP⟩
end
end Go.Proofs.Ytdepakimbagonaa
