/- Chapter 8: the document's net of a station, and that it takes just what the program's takes. -/
import Derived.Test.YtlmddkekeoebcaaRfl
namespace Go.Proofs.Ytlmddkekeoebcaa
set_option linter.unusedVariables false
set_option linter.unusedSimpArgs false

/-! ## the document's joins -/
def ndR (T p t : Nat) : Nat := p * (T + 1) + t
def farI : Int := 1073741824
def goneI (out : Int) (p : Psg) (place : Int) : Int :=
  if othr p place < 0 ∨ p.kind = 4 then -1 else if p.kind = 3 ∧ bitI out p.mach = 1 then p.still else if p.kind = 3 ∧ place = p.b then -1 else p.ticks
def rmv : Mv := ⟨-1, 0, 0, 0⟩
def jrBeg (P T : Nat) (pe : List Int) (p : Nat) : Jn := ⟨P * (T + 1), ndR T p 0, pe.getD p 0, rmv⟩
def jrTick (P T : Nat) (xs : List Int) (p t : Nat) : List Jn := if hasI xs p = true then [⟨ndR T p t, P * (T + 1) + 1, farI, rmv⟩] else if t < T then [⟨ndR T p t, ndR T p (t + 1), farI, rmv⟩] else []
def jrTicks (P T : Nat) (xs : List Int) (p : Nat) : Nat → List Jn
  | 0 => []
  | t + 1 => jrTicks P T xs p t ++ jrTick P T xs p t
def jrPlaces (P T : Nat) (pe xs : List Int) : Nat → List Jn
  | 0 => []
  | p + 1 => jrPlaces P T pe xs p ++ (jrBeg P T pe p :: jrTicks P T xs p (T + 1))
def endI (p : Psg) (k : Nat) : Int := if k = 0 then p.a else p.b
def jrOne (T : Nat) (xs : List Int) (out : Int) (p : Psg) (i t k : Nat) : List Jn :=
  if (0 ≤ goneI out p (endI p k) ∧ (t : Int) + goneI out p (endI p k) ≤ T) ∧ hasI xs (endI p k) = false then
    [⟨ndR T (endI p k).toNat t, ndR T (endI p (1 - k)).toNat (t + (goneI out p (endI p k)).toNat), p.wide, ⟨i, 0, t, 0⟩⟩] else []
def jrPsgs (T : Nat) (xs : List Int) (out : Int) (ps : List Psg) (t : Nat) : Nat → List Jn
  | 0 => []
  | i + 1 => jrPsgs T xs out ps t i ++ (jrOne T xs out (ps.getD i Psg.zero) i t 0 ++ jrOne T xs out (ps.getD i Psg.zero) i t 1)
def jrHeads (T : Nat) (xs : List Int) (out : Int) (ps : List Psg) : Nat → List Jn
  | 0 => []
  | t + 1 => jrHeads T xs out ps t ++ jrPsgs T xs out ps t ps.length
def jrAll (P T : Nat) (pe xs : List Int) (out : Int) (ps : List Psg) : List Jn := jrPlaces P T pe xs P ++ jrHeads T xs out ps (T + 1)

/-! ## what goes across a set -/
def cr (S : Nat → Bool) (f t : Nat) (c : Int) : Int := if S f = true ∧ S t = false then c else 0
theorem capJ_cons (S : Nat → Bool) (j : Jn) (J : List Jn) : capJ S (j :: J) = cr S j.f j.t j.room + capJ S J := rfl
theorem cr_nn {S : Nat → Bool} {f t : Nat} {c : Int} (h : 0 ≤ c) : 0 ≤ cr S f t c := by unfold cr; split <;> omega
/-- Node p, t of the document is S, in words of places and ticks. -/
def onR (T : Nat) (S : Nat → Bool) (p t : Nat) : Bool := S (ndR T p t)
def onP (P : Nat) (S : Nat → Bool) (p t : Nat) : Bool := S (nd P t p)
/-- What a direction takes. -/
def hC (U : Nat → Nat → Bool) (T : Nat) (f t : Nat) (d : Int) (c : Int) (tick : Nat) : Int := if (tick : Int) + d ≤ T ∧ U f tick = true ∧ U t (tick + d.toNat) = false then c else 0
/-- The directions of a passage, as the document goes through them. -/
def pC (U : Nat → Nat → Bool) (T : Nat) (xs : List Int) (out : Int) (p : Psg) (tick k : Nat) : Int := if 0 ≤ goneI out p (endI p k) ∧ hasI xs (endI p k) = false then hC U T (endI p k).toNat (endI p (1 - k)).toNat (goneI out p (endI p k)) p.wide tick else 0
def headC (U : Nat → Nat → Bool) (T : Nat) (xs : List Int) (out : Int) (ps : List Psg) : Int := sm (fun t => sm (fun i => pC U T xs out (ps.getD i Psg.zero) t 0 + pC U T xs out (ps.getD i Psg.zero) t 1) ps.length) (T + 1)
def begC (U : Nat → Nat → Bool) (pe : List Int) (P : Nat) : Int := sm (fun p => if U p 0 = false then pe.getD p 0 else 0) P
/-- No edge without a bound leads out. -/
def Tight (U : Nat → Nat → Bool) (P T : Nat) (xs : List Int) : Prop := ∀ p, p < P → (hasI xs p = true → ∀ t, t ≤ T → U p t = false) ∧ (hasI xs p = false → ∀ t, t < T → U p t = true → U p (t + 1) = true)
section
variable {P T : Nat} {pe xs : List Int} {out : Int} {ps : List Psg} {S : Nat → Bool}
theorem cr_one {f t : Nat} {c : Int} {mv : Mv} : capJ S [⟨f, t, c, mv⟩] = cr S f t c := by rw [capJ_cons]; exact Int.add_zero _
theorem jrOne_cap {p : Psg} {i t k : Nat} : capJ S (jrOne T xs out p i t k) = pC (onR T S) T xs out p t k := by
  unfold jrOne pC hC
  by_cases h0 : 0 ≤ goneI out p (endI p k) ∧ hasI xs (endI p k) = false
  · rw [if_pos h0]
    by_cases h1 : (t : Int) + goneI out p (endI p k) ≤ T
    · rw [if_pos ⟨⟨h0.1, h1⟩, h0.2⟩, cr_one]
      unfold cr onR
      by_cases h2 : S (ndR T (endI p k).toNat t) = true ∧ S (ndR T (endI p (1 - k)).toNat (t + (goneI out p (endI p k)).toNat)) = false
      · rw [if_pos h2, if_pos ⟨h1, h2⟩]
      · rw [if_neg h2, if_neg (fun h => h2 h.2)]
    · rw [if_neg (fun h => h1 h.1.2), if_neg (fun h => h1 h.1)]; rfl
  · rw [if_neg h0, if_neg (fun h => h0 ⟨h.1.1, h.2⟩)]; rfl
theorem jrPsgs_cap {t : Nat} : ∀ n, capJ S (jrPsgs T xs out ps t n) = sm (fun i => pC (onR T S) T xs out (ps.getD i Psg.zero) t 0 + pC (onR T S) T xs out (ps.getD i Psg.zero) t 1) n := by
  intro n
  induction n with
  | zero => rfl
  | succ n ih => rw [jrPsgs, capJ_append, capJ_append, ih, jrOne_cap, jrOne_cap, sm]
theorem jrHeads_cap : ∀ n, capJ S (jrHeads T xs out ps n) = sm (fun t => sm (fun i => pC (onR T S) T xs out (ps.getD i Psg.zero) t 0 + pC (onR T S) T xs out (ps.getD i Psg.zero) t 1) ps.length) n := by
  intro n
  induction n with
  | zero => rfl
  | succ n ih => rw [jrHeads, capJ_append, ih, jrPsgs_cap, sm]
theorem sm_swap {f : Nat → Nat → Int} {m : Nat} : ∀ {n : Nat}, sm (fun i => sm (fun j => f i j) m) n = sm (fun j => sm (fun i => f i j) n) m := by
  intro n
  induction n with
  | zero => exact (sm_zero fun _ _ => rfl).symm
  | succ n ih => rw [sm, ih, ← sm_add]; exact sm_congr fun j _ => rfl
theorem jHeadN_cap {h : Hd} : ∀ n, capJ S (jHeadN P h n) = sm (fun t => cr S (nd P t h.fr.toNat) (nd P (t + h.ticks.toNat) h.to.toNat) h.wide) n := by
  intro n
  induction n with
  | zero => rfl
  | succ n ih =>
    have e : jHeadN P h (n + 1) = jHeadN P h n ++ [jHead P h n] := range_snoc n
    rw [e, capJ_append, ih, sm]
    congr 1
    exact cr_one
theorem sm_cut {f : Nat → Int} {m : Nat} : ∀ {n : Nat}, m ≤ n → sm (fun t => if t < m then f t else 0) n = sm f m := by
  intro n
  induction n with
  | zero => intro h; have : m = 0 := by omega
            subst this; rfl
  | succ n ih =>
    intro h
    rw [sm]
    by_cases e : m = n + 1
    · subst e; rw [if_pos (by omega), sm]; congr 1; exact sm_congr fun i hi => if_pos (by omega)
    · rw [ih (by omega), if_neg (by omega)]; omega
theorem jHead_cap {h : Hd} (h1 : 1 ≤ h.ticks) : capJ S (jHeadN P h (T + 1 - h.ticks.toNat)) = sm (hC (onP P S) T h.fr.toNat h.to.toNat h.ticks h.wide) (T + 1) := by
  rw [jHeadN_cap, ← sm_cut (n := T + 1) (by omega)]
  refine sm_congr fun t ht => ?_
  unfold hC cr onP
  by_cases h2 : t < T + 1 - h.ticks.toNat
  · rw [if_pos h2]
    by_cases h3 : S (nd P t h.fr.toNat) = true ∧ S (nd P (t + h.ticks.toNat) h.to.toNat) = false
    · rw [if_pos h3, if_pos ⟨by omega, h3⟩]
    · rw [if_neg h3, if_neg (fun h => h3 h.2)]
  · rw [if_neg h2, if_neg (fun h => by omega)]
/-- What a list of directions takes. -/
def hdC (U : Nat → Nat → Bool) (T : Nat) : List Hd → Int
  | [] => 0
  | h :: l => sm (hC U T h.fr.toNat h.to.toNat h.ticks h.wide) (T + 1) + hdC U T l
theorem hdC_append {U : Nat → Nat → Bool} {l l' : List Hd} : hdC U T (l ++ l') = hdC U T l + hdC U T l' := by
  induction l with
  | nil => simp [hdC]
  | cons h l ih => simp only [List.cons_append, hdC, ih]; omega
theorem jHeads_cap {hs : List Hd} (hh : ∀ i, i < hs.length → HdOk P (hs.getD i Hd.zero)) : ∀ n, n ≤ hs.length → capJ S (jHeads P T hs n) = hdC (onP P S) T (hs.take n) := by
  intro n
  induction n with
  | zero => intro _; simp [jHeads, capJ, hdC]
  | succ n ih =>
    intro hn
    have h1 := hh n (by omega)
    unfold HdOk at h1
    rw [jHeads, capJ_append, ih (by omega), jHead_cap (by omega), List.take_succ_eq_append_getElem (by omega), hdC_append]
    congr 1
    rw [List.getD_eq_getElem?_getD, List.getElem?_eq_getElem (by omega)]
    simp [hdC]
theorem sm_nil {n : Nat} : sm (fun _ => (0 : Int)) n = 0 := sm_zero fun _ _ => rfl
theorem hdsOf_cap {U : Nat → Nat → Bool} {k : Nat} (V : StV P ps xs) (hk : k < ps.length) (ho : 0 ≤ out) : hdC U T (hdsOf out xs k (ps.getD k Psg.zero)) = sm (fun t => pC U T xs out (ps.getD k Psg.zero) t 0 + pC U T xs out (ps.getD k Psg.zero) t 1) (T + 1) := by
  have hp := psgOk_iff.1 (V.pas k hk)
  rw [sm_add]
  generalize ps.getD k Psg.zero = p at hp
  have hab : ¬ p.b = p.a := fun h => hp.2.2.2.2.1 h.symm
  have hab' : ¬ p.a = p.b := fun h => hp.2.2.2.2.1 h
  have bt : bitI out p.mach = 0 ∨ bitI out p.mach = 1 := by unfold bitI; omega
  unfold hdsOf
  by_cases h4 : p.kind = 4
  · rw [if_pos h4]
    have z : ∀ k, goneI out p (endI p k) = -1 := fun k => by unfold goneI; rw [if_pos (.inr h4)]
    have e : ∀ k t, pC U T xs out p t k = 0 := fun k t => by unfold pC; rw [z k, if_neg (fun h => by omega)]
    simp only [hdC, e, sm_nil]
    rfl
  · rw [if_neg h4, hdC_append]
    have oA : othr p (endI p 0) = p.b := by unfold othr endI; rw [if_pos rfl]; simp
    have oB : othr p (endI p 1) = p.a := by unfold othr endI; simp only [Nat.one_ne_zero, if_false]; rw [if_neg hab']; simp
    have gA : goneI out p (endI p 0) = hdTicks out p := by
      unfold goneI hdTicks
      rw [oA, if_neg (by omega)]
      by_cases h3 : p.kind = 3 ∧ bitI out p.mach = 1
      · rw [if_pos h3, if_pos ⟨h3.1, by omega⟩]
      · rw [if_neg h3, if_neg (fun h => hab' h.2), if_neg (fun h => h3 ⟨h.1, by omega⟩)]
    have ht : 1 ≤ hdTicks out p := by unfold hdTicks; split <;> omega
    congr 1
    · unfold hdsA
      by_cases hx : hasI xs p.a = true
      · rw [if_pos hx]
        have e : ∀ t, pC U T xs out p t 0 = 0 := fun t => by unfold pC; rw [if_neg (fun h => by have h2 := h.2; unfold endI at h2; rw [if_pos rfl, hx] at h2; cases h2)]
        simp only [hdC, e, sm_nil]
      · rw [if_neg hx]
        have e : ∀ t, pC U T xs out p t 0 = hC U T p.a.toNat p.b.toNat (hdTicks out p) p.wide t := fun t => by
          unfold pC
          rw [gA, if_pos ⟨by omega, by unfold endI; rw [if_pos rfl]; simpa using hx⟩]
          rfl
        simp only [hdC, e]
        exact Int.add_zero _
    · unfold hdsB
      by_cases hb : (hdBack out p && !hasI xs p.b) = true
      · rw [if_pos hb]
        simp only [Bool.and_eq_true, Bool.not_eq_true'] at hb
        have h3 : ¬ (p.kind = 3 ∧ bitI out p.mach = 0) := fun h => by
          have := hb.1
          unfold hdBack at this
          rw [decide_eq_true h.1, decide_eq_true h.2] at this
          cases this
        have gB : goneI out p (endI p 1) = hdTicks out p := by
          unfold goneI hdTicks
          rw [oB, if_neg (by omega)]
          by_cases h5 : p.kind = 3 ∧ bitI out p.mach = 1
          · rw [if_pos h5, if_pos ⟨h5.1, by omega⟩]
          · rw [if_neg h5, if_neg (fun h => h3 ⟨h.1, by have h6 : ¬ bitI out p.mach = 1 := fun e => h5 ⟨h.1, e⟩; omega⟩), if_neg (fun h => h5 ⟨h.1, by omega⟩)]
        have e : ∀ t, pC U T xs out p t 1 = hC U T p.b.toNat p.a.toNat (hdTicks out p) p.wide t := fun t => by
          unfold pC
          rw [gB, if_pos ⟨by omega, hb.2⟩]
          rfl
        simp only [hdC, e]
        exact Int.add_zero _
      · rw [if_neg hb]
        have e : ∀ t, pC U T xs out p t 1 = 0 := fun t => by
          unfold pC
          refine if_neg fun h => hb ?_
          have hx : hasI xs p.b = false := h.2
          rw [hx]
          have h1 := h.1
          unfold goneI at h1
          rw [oB, if_neg (by omega)] at h1
          unfold hdBack
          by_cases h3 : p.kind = 3
          · by_cases h5 : bitI out p.mach = 1
            · rw [decide_eq_false (p := bitI out p.mach = 0) (by omega), Bool.and_false]; rfl
            · rw [if_neg (fun h => h5 h.2), if_pos ⟨h3, rfl⟩] at h1
              omega
          · rw [decide_eq_false h3]; rfl
        simp only [hdC, e, sm_nil]
theorem hds_cap {U : Nat → Nat → Bool} (V : StV P ps xs) (ho : 0 ≤ out) : hdC U T (hds out xs ps) = headC U T xs out ps := by
  have key : ∀ n, n ≤ ps.length → hdC U T (hdsTo out xs ps n) = sm (fun i => sm (fun t => pC U T xs out (ps.getD i Psg.zero) t 0 + pC U T xs out (ps.getD i Psg.zero) t 1) (T + 1)) n := by
    intro n
    induction n with
    | zero => intro _; rfl
    | succ n ih => intro hn; rw [hdsTo, hdC_append, ih (by omega), hdsOf_cap V (by omega) ho]; rfl
  unfold headC hds
  rw [key _ (Nat.le_refl _), sm_swap]
theorem heads_P (V : StV P ps xs) (ho : 0 ≤ out) : capJ S (jHeads P T (hds out xs ps) (hds out xs ps).length) = headC (onP P S) T xs out ps := by
  rw [jHeads_cap (hds_ok V) _ (Nat.le_refl _), List.take_length, hds_cap V ho]
theorem heads_R : capJ S (jrHeads T xs out ps (T + 1)) = headC (onR T S) T xs out ps := jrHeads_cap _

/-! ## places -/
theorem jrTicks_cap {p : Nat} : ∀ n, capJ S (jrTicks P T xs p n) = sm (fun t => capJ S (jrTick P T xs p t)) n := by
  intro n
  induction n with
  | zero => rfl
  | succ n ih => rw [jrTicks, capJ_append, ih, sm]
theorem jrTick_nn {p t : Nat} : 0 ≤ capJ S (jrTick P T xs p t) := capJ_nn fun j hj => by
  unfold jrTick at hj
  split at hj
  · rw [List.mem_singleton.1 hj]; exact (by decide : (0 : Int) ≤ farI)
  · split at hj
    · rw [List.mem_singleton.1 hj]; exact (by decide : (0 : Int) ≤ farI)
    · cases hj
theorem placesR : ∀ n, capJ S (jrPlaces P T pe xs n) = sm (fun p => cr S (P * (T + 1)) (ndR T p 0) (pe.getD p 0) + sm (fun t => capJ S (jrTick P T xs p t)) (T + 1)) n := by
  intro n
  induction n with
  | zero => rfl
  | succ n ih => rw [jrPlaces, capJ_append, ih, capJ_cons, jrTicks_cap, sm]; rfl
theorem waits_cap {p : Nat} : ∀ n, capJ S (jWaits P p n) = sm (fun t => cr S (nd P t p) (nd P (t + 1) p) plenty) n := by
  intro n
  induction n with
  | zero => rfl
  | succ n ih =>
    have e : jWaits P p (n + 1) = jWaits P p n ++ [jWait P p n] := range_snoc n
    rw [e, capJ_append, ih, sm]
    congr 1
    exact cr_one
theorem exits_cap {p : Nat} : ∀ n, capJ S (jExits P T p n) = sm (fun t => cr S (nd P t p) (P * (T + 1) + 1) plenty) n := by
  intro n
  induction n with
  | zero => rfl
  | succ n ih =>
    have e : jExits P T p (n + 1) = jExits P T p n ++ [jExit P T p n] := range_snoc n
    rw [e, capJ_append, ih, sm]
    congr 1
    exact cr_one
def plC (P T : Nat) (xs : List Int) (S : Nat → Bool) (p : Nat) : Int := sm (fun t => cr S (nd P t p) (nd P (t + 1) p) plenty) T + (if hasI xs p = true then sm (fun t => cr S (nd P t p) (P * (T + 1) + 1) plenty) (T + 1) else 0)
theorem placesP : ∀ n, capJ S (jPlaces P T pe xs n) = sm (fun p => cr S (P * (T + 1)) (nd P 0 p) (pe.getD p 0) + plC P T xs S p) n := by
  intro n
  induction n with
  | zero => rfl
  | succ n ih =>
    rw [jPlaces, capJ_append, ih, sm]
    congr 1
    unfold jPlace
    rw [capJ_cons, capJ_append, waits_cap]
    unfold plC
    congr 2
    split
    · exact exits_cap _
    · rfl
theorem plC_nn {p : Nat} : 0 ≤ plC P T xs S p := by
  unfold plC
  have h1 := sm_nonneg (f := fun t => cr S (nd P t p) (nd P (t + 1) p) plenty) (n := T) (fun t _ => cr_nn (by decide))
  have h2 := sm_nonneg (f := fun t => cr S (nd P t p) (P * (T + 1) + 1) plenty) (n := T + 1) (fun t _ => cr_nn (by decide))
  split <;> omega
/-- Whether no edge without a bound leads out, and what then goes across, in the document's net. -/
theorem cap_R (hpe : ∀ p, p < P → 0 ≤ pe.getD p 0) (hw : ∀ i, i < ps.length → 0 ≤ (ps.getD i Psg.zero).wide) (hb : S (P * (T + 1)) = true) (hx : S (P * (T + 1) + 1) = false) :
    (Tight (onR T S) P T xs → capJ S (jrAll P T pe xs out ps) = begC (onR T S) pe P + headC (onR T S) T xs out ps) ∧ (¬ Tight (onR T S) P T xs → farI ≤ capJ S (jrAll P T pe xs out ps)) := by
  have hbeg : ∀ p, cr S (P * (T + 1)) (ndR T p 0) (pe.getD p 0) = if onR T S p 0 = false then pe.getD p 0 else 0 := fun p => by
    unfold cr onR
    by_cases h : S (ndR T p 0) = false
    · rw [if_pos ⟨hb, h⟩, if_pos h]
    · rw [if_neg (fun h2 => h h2.2), if_neg h]
  have hhn : 0 ≤ headC (onR T S) T xs out ps := sm_nonneg fun t _ => sm_nonneg fun i hi => by
    have := hw i hi
    have key : ∀ k, 0 ≤ pC (onR T S) T xs out (ps.getD i Psg.zero) t k := fun k => by unfold pC hC; split; (split <;> omega); omega
    have h0 := key 0
    have h1 := key 1
    omega
  unfold jrAll
  rw [capJ_append, heads_R, placesR]
  refine ⟨fun ht => ?_, fun hn => ?_⟩
  · congr 1
    unfold begC
    refine sm_congr fun p hp => ?_
    rw [hbeg, sm_zero (f := fun t => capJ S (jrTick P T xs p t)) fun t htT => ?_]
    · omega
    · have h1 := ht p hp
      unfold jrTick
      by_cases he : hasI xs p = true
      · rw [if_pos he, cr_one]
        unfold cr
        rw [if_neg]
        rintro ⟨h2, _⟩
        have := h1.1 he t (by omega)
        unfold onR at this
        rw [h2] at this; cases this
      · rw [if_neg he]
        by_cases hlt : t < T
        · rw [if_pos hlt, cr_one]
          unfold cr
          rw [if_neg]
          rintro ⟨h2, h3⟩
          have := h1.2 (by simpa using he) t hlt h2
          unfold onR at this
          rw [h3] at this; cases this
        · rw [if_neg hlt]; rfl
  · have : ∃ p, p < P ∧ ∃ t, t < T + 1 ∧ farI ≤ capJ S (jrTick P T xs p t) := by
      refine Classical.byContradiction fun hno => hn fun p hp => ⟨fun he t ht => ?_, fun he t ht h1 => ?_⟩
      · cases hs : onR T S p t with
        | false => rfl
        | true =>
          exfalso
          apply hno
          refine ⟨p, hp, t, by omega, ?_⟩
          unfold jrTick
          rw [if_pos he, cr_one]
          unfold cr
          rw [if_pos ⟨hs, hx⟩]
          exact Int.le_refl _
      · cases hs : onR T S p (t + 1) with
        | true => rfl
        | false =>
          exfalso
          apply hno
          refine ⟨p, hp, t, by omega, ?_⟩
          unfold jrTick
          rw [if_neg (by rw [he]; simp), if_pos ht, cr_one]
          unfold cr
          rw [if_pos ⟨h1, hs⟩]
          exact Int.le_refl _
    obtain ⟨p, hp, t, ht, h2⟩ := this
    have h3 := sm_mem (f := fun t => capJ S (jrTick P T xs p t)) (n := T + 1) (fun _ _ => jrTick_nn) ht
    have h4 := sm_mem (f := fun p => cr S (P * (T + 1)) (ndR T p 0) (pe.getD p 0) + sm (fun t => capJ S (jrTick P T xs p t)) (T + 1)) (n := P) (fun q hq => by
      have h5 := cr_nn (S := S) (f := P * (T + 1)) (t := ndR T q 0) (hpe q hq)
      have h6 := sm_nonneg (f := fun t => capJ S (jrTick P T xs q t)) (n := T + 1) (fun _ _ => jrTick_nn)
      omega) hp
    have h5 := cr_nn (S := S) (f := P * (T + 1)) (t := ndR T p 0) (hpe p hp)
    omega
theorem cap_P (V : StV P ps xs) (ho : 0 ≤ out) (hpe : ∀ p, p < P → 0 ≤ pe.getD p 0) (hb : S (P * (T + 1)) = true) (hx : S (P * (T + 1) + 1) = false) :
    (Tight (onP P S) P T xs → capJ S (jAll P T pe xs (hds out xs ps)) = begC (onP P S) pe P + headC (onP P S) T xs out ps) ∧ (¬ Tight (onP P S) P T xs → farI ≤ capJ S (jAll P T pe xs (hds out xs ps))) := by
  have hw : ∀ i, i < ps.length → 0 ≤ (ps.getD i Psg.zero).wide := fun i hi => by have := psgOk_iff.1 (V.pas i hi); omega
  have hbeg : ∀ p, cr S (P * (T + 1)) (nd P 0 p) (pe.getD p 0) = if onP P S p 0 = false then pe.getD p 0 else 0 := fun p => by
    unfold cr onP
    by_cases h : S (nd P 0 p) = false
    · rw [if_pos ⟨hb, h⟩, if_pos h]
    · rw [if_neg (fun h2 => h h2.2), if_neg h]
  have hhn : 0 ≤ headC (onP P S) T xs out ps := sm_nonneg fun t _ => sm_nonneg fun i hi => by
    have := hw i hi
    have key : ∀ k, 0 ≤ pC (onP P S) T xs out (ps.getD i Psg.zero) t k := fun k => by unfold pC hC; split; (split <;> omega); omega
    have h0 := key 0
    have h1 := key 1
    omega
  unfold jAll
  rw [capJ_append, heads_P V ho, placesP]
  refine ⟨fun ht => ?_, fun hn => ?_⟩
  · congr 1
    unfold begC
    refine sm_congr fun p hp => ?_
    have h1 := ht p hp
    have hz : plC P T xs S p = 0 := by
      unfold plC
      have e1 : sm (fun t => cr S (nd P t p) (nd P (t + 1) p) plenty) T = 0 := sm_zero fun t htT => by
        unfold cr
        rw [if_neg]
        rintro ⟨h2, h3⟩
        by_cases he : hasI xs p = true
        · have := h1.1 he t (by omega); unfold onP at this; rw [h2] at this; cases this
        · have := h1.2 (by simpa using he) t htT h2; unfold onP at this; rw [h3] at this; cases this
      rw [e1]
      split
      · rename_i he
        rw [sm_zero fun t htT => ?_]
        · rfl
        · unfold cr
          rw [if_neg]
          rintro ⟨h2, _⟩
          have := h1.1 he t (by omega); unfold onP at this; rw [h2] at this; cases this
      · rfl
    rw [hbeg, hz]
    omega
  · have : ∃ p, p < P ∧ plenty ≤ plC P T xs S p := by
      refine Classical.byContradiction fun hno => hn fun p hp => ⟨fun he t ht => ?_, fun he t ht h1 => ?_⟩
      · cases hs : onP P S p t with
        | false => rfl
        | true =>
          exfalso
          apply hno
          refine ⟨p, hp, ?_⟩
          unfold plC
          rw [if_pos he]
          have h2 := sm_mem (f := fun t => cr S (nd P t p) (P * (T + 1) + 1) plenty) (n := T + 1) (fun t _ => cr_nn (by decide)) (p := t) (by omega)
          have h3 := sm_nonneg (f := fun t => cr S (nd P t p) (nd P (t + 1) p) plenty) (n := T) (fun t _ => cr_nn (by decide))
          have h4 : cr S (nd P t p) (P * (T + 1) + 1) plenty = plenty := if_pos ⟨hs, hx⟩
          omega
      · cases hs : onP P S p (t + 1) with
        | true => rfl
        | false =>
          exfalso
          apply hno
          refine ⟨p, hp, ?_⟩
          unfold plC
          have h2 := sm_mem (f := fun t => cr S (nd P t p) (nd P (t + 1) p) plenty) (n := T) (fun t _ => cr_nn (by decide)) (p := t) ht
          have h3 := sm_nonneg (f := fun t => cr S (nd P t p) (P * (T + 1) + 1) plenty) (n := T + 1) (fun t _ => cr_nn (by decide))
          have h4 : cr S (nd P t p) (nd P (t + 1) p) plenty = plenty := if_pos ⟨h1, hs⟩
          split <;> omega
    obtain ⟨p, hp, h2⟩ := this
    have h4 := sm_mem (f := fun p => cr S (P * (T + 1)) (nd P 0 p) (pe.getD p 0) + plC P T xs S p) (n := P) (fun q hq => by
      have h5 := cr_nn (S := S) (f := P * (T + 1)) (t := nd P 0 q) (hpe q hq)
      have h6 := plC_nn (P := P) (T := T) (xs := xs) (S := S) (p := q)
      omega) hp
    have h5 := cr_nn (S := S) (f := P * (T + 1)) (t := nd P 0 p) (hpe p hp)
    have h6 : farI ≤ plenty := by decide
    omega
end

/-! ## both nets -/
def toR (P T : Nat) (n : Nat) : Nat := if n < P * (T + 1) then ndR T (n % P) (n / P) else n
def toP (P T : Nat) (n : Nat) : Nat := if n < P * (T + 1) then nd P (n % (T + 1)) (n / (T + 1)) else n
section
variable {P T : Nat} {pe xs : List Int} {out : Int} {ps : List Psg} {S : Nat → Bool}
theorem ndR_lt {p t : Nat} (hp : p < P) (ht : t ≤ T) : ndR T p t < P * (T + 1) := by
  have : (p + 1) * (T + 1) ≤ P * (T + 1) := Nat.mul_le_mul_right _ (by omega)
  rw [Nat.add_mul] at this
  unfold ndR
  omega
theorem ndR_ne {p p' t t' : Nat} (ht : t ≤ T) (ht' : t' ≤ T) (h : ¬ (p = p' ∧ t = t')) : ndR T p t ≠ ndR T p' t' := by
  intro e
  unfold ndR at e
  have h1 : (p * (T + 1) + t) / (T + 1) = p := by rw [Nat.mul_comm, Nat.mul_add_div (by omega), Nat.div_eq_of_lt (by omega)]; rfl
  have h2 : (p' * (T + 1) + t') / (T + 1) = p' := by rw [Nat.mul_comm, Nat.mul_add_div (by omega), Nat.div_eq_of_lt (by omega)]; rfl
  have e1 : p = p' := by rw [← h1, e, h2]
  subst e1
  exact h ⟨rfl, by omega⟩
theorem toR_nd {p t : Nat} (hp : p < P) (ht : t ≤ T) : toR P T (nd P t p) = ndR T p t := by
  unfold toR
  rw [if_pos (nd_lt ht hp)]
  have h1 : nd P t p % P = p := by unfold nd; rw [Nat.mul_add_mod, Nat.mod_eq_of_lt hp]
  have h2 : nd P t p / P = t := by unfold nd; rw [Nat.mul_add_div (by omega), Nat.div_eq_of_lt hp]; rfl
  rw [h1, h2]
theorem toP_nd {p t : Nat} (hp : p < P) (ht : t ≤ T) : toP P T (ndR T p t) = nd P t p := by
  unfold toP
  rw [if_pos (ndR_lt hp ht)]
  have h1 : ndR T p t % (T + 1) = t := by unfold ndR; rw [Nat.mul_comm, Nat.mul_add_mod, Nat.mod_eq_of_lt (by omega)]
  have h2 : ndR T p t / (T + 1) = p := by unfold ndR; rw [Nat.mul_comm, Nat.mul_add_div (by omega), Nat.div_eq_of_lt (by omega)]; rfl
  rw [h1, h2]
theorem toR_big {n : Nat} (h : P * (T + 1) ≤ n) : toR P T n = n := if_neg (by omega)
theorem toP_big {n : Nat} (h : P * (T + 1) ≤ n) : toP P T n = n := if_neg (by omega)
theorem tight_congr {U U' : Nat → Nat → Bool} (h : ∀ p, p < P → ∀ t, t ≤ T → U p t = U' p t) (H : Tight U P T xs) : Tight U' P T xs := fun p hp =>
  ⟨fun he t ht => by rw [← h p hp t ht]; exact (H p hp).1 he t ht, fun he t ht h1 => by rw [← h p hp (t + 1) (by omega)]; exact (H p hp).2 he t ht (by rw [h p hp t (by omega)]; exact h1)⟩
theorem begC_congr {U U' : Nat → Nat → Bool} (h : ∀ p, p < P → ∀ t, t ≤ T → U p t = U' p t) : begC U pe P = begC U' pe P := sm_congr fun p hp => by rw [h p hp 0 (by omega)]
theorem headC_congr {U U' : Nat → Nat → Bool} (V : StV P ps xs) (h : ∀ p, p < P → ∀ t, t ≤ T → U p t = U' p t) : headC U T xs out ps = headC U' T xs out ps := sm_congr fun t ht => sm_congr fun i hi => by
  have hp := psgOk_iff.1 (V.pas i hi)
  have key : ∀ k, pC U T xs out (ps.getD i Psg.zero) t k = pC U' T xs out (ps.getD i Psg.zero) t k := fun k => by
    have e : ∀ k, (endI (ps.getD i Psg.zero) k).toNat < P := fun k => by unfold endI; split <;> omega
    unfold pC
    split
    · rename_i h0
      unfold hC
      by_cases h1 : (t : Int) + goneI out (ps.getD i Psg.zero) (endI (ps.getD i Psg.zero) k) ≤ T
      · rw [h _ (e k) t (by omega), h _ (e (1 - k)) _ (by omega)]
      · rw [if_neg (fun h => h1 h.1), if_neg (fun h => h1 h.1)]
    · rfl
  rw [key 0, key 1]
end
/-- The document's net. -/
def layR (P T : Nat) (pe xs : List Int) (out : Int) (ps : List Psg) : Net := (joins (jrAll P T pe xs out ps)).net (P * (T + 1) + 2)
def roomR (P T : Nat) (pe xs : List Int) (out : Int) (ps : List Psg) : RM := (joins (jrAll P T pe xs out ps)).room
structure LayR (P T : Nat) (pe xs : List Int) (out : Int) (ps : List Psg) : Prop where
  ne : ∀ j ∈ jrAll P T pe xs out ps, j.f ≠ j.t
  wf : (layR P T pe xs out ps).Wf
  ok : Ok (layR P T pe xs out ps) (roomR P T pe xs out ps) 1073741824
  cap : ∀ S, resid (layR P T pe xs out ps) (roomR P T pe xs out ps) S = capJ S (jrAll P T pe xs out ps)
section
variable {P T : Nat} {pe xs : List Int} {out : Int} {ps : List Psg} {S : Nat → Bool} {v v' : Int} {r r' : RM} {L L' : Nat → Int}
theorem gone_bd (V : StV P ps xs) {i : Nat} (hi : i < ps.length) (k : Nat) : goneI out (ps.getD i Psg.zero) (endI (ps.getD i Psg.zero) k) = -1 ∨ (1 ≤ goneI out (ps.getD i Psg.zero) (endI (ps.getD i Psg.zero) k) ∧ goneI out (ps.getD i Psg.zero) (endI (ps.getD i Psg.zero) k) ≤ 20) := by
  have hp := psgOk_iff.1 (V.pas i hi)
  unfold goneI
  split
  · exact .inl rfl
  · split
    · rename_i h; exact .inr (by omega)
    · split
      · exact .inl rfl
      · exact .inr (by omega)
def JR (P T : Nat) (j : Jn) : Prop := j.f ≠ j.t ∧ j.f < P * (T + 1) + 2 ∧ j.t < P * (T + 1) + 2 ∧ 0 ≤ j.room ∧ j.room ≤ 1073741824
theorem jrAll_ok (V : StV P ps xs) (hpe : ∀ k, k < pe.length → 0 ≤ pe.getD k 0 ∧ pe.getD k 0 ≤ 1000) : ∀ j ∈ jrAll P T pe xs out ps, JR P T j := by
  have hpe' : ∀ p, 0 ≤ pe.getD p 0 ∧ pe.getD p 0 ≤ 1000 := fun p => by
    by_cases h : p < pe.length
    · exact hpe p h
    · rw [List.getD_eq_getElem?_getD, List.getElem?_eq_none (by omega)]; simp
  have tick : ∀ p, p < P → ∀ t, t ≤ T → ∀ j ∈ jrTick P T xs p t, JR P T j := by
    intro p hp t ht j hj
    have h1 := ndR_lt (P := P) hp ht
    unfold jrTick at hj
    split at hj
    · rw [List.mem_singleton.1 hj]
      refine ⟨?_, ?_, ?_, ?_, ?_⟩ <;> dsimp only <;> first | omega | (unfold farI; omega)
    · split at hj
      · rename_i hlt
        have h2 := ndR_lt (P := P) (T := T) (t := t + 1) hp (by omega)
        rw [List.mem_singleton.1 hj]
        refine ⟨ndR_ne (by omega) (by omega) (by omega), ?_, ?_, ?_, ?_⟩ <;> dsimp only <;> first | omega | (unfold farI; omega)
      · cases hj
  have ticks : ∀ p, p < P → ∀ n, n ≤ T + 1 → ∀ j ∈ jrTicks P T xs p n, JR P T j := by
    intro p hp n
    induction n with
    | zero => intro _ j hj; cases hj
    | succ n ih =>
      intro hn j hj
      rcases List.mem_append.1 hj with hj | hj
      · exact ih (by omega) j hj
      · exact tick p hp n (by omega) j hj
  have places : ∀ n, n ≤ P → ∀ j ∈ jrPlaces P T pe xs n, JR P T j := by
    intro n
    induction n with
    | zero => intro _ j hj; cases hj
    | succ n ih =>
      intro hn j hj
      rcases List.mem_append.1 hj with hj | hj
      · exact ih (by omega) j hj
      · rcases List.mem_cons.1 hj with rfl | hj
        · have h1 := ndR_lt (P := P) (T := T) (p := n) (t := 0) (by omega) (by omega)
          have h2 := hpe' n
          refine ⟨?_, ?_, ?_, ?_, ?_⟩ <;> unfold jrBeg <;> dsimp only <;> omega
        · exact ticks n (by omega) _ (Nat.le_refl _) j hj
  have one : ∀ i, i < ps.length → ∀ t, t ≤ T → ∀ k, ∀ j ∈ jrOne T xs out (ps.getD i Psg.zero) i t k, JR P T j := by
    intro i hi t ht k j hj
    have hp := psgOk_iff.1 (V.pas i hi)
    have e : ∀ k, (endI (ps.getD i Psg.zero) k).toNat < P := fun k => by unfold endI; split <;> omega
    have hg := gone_bd (out := out) V hi k
    unfold jrOne at hj
    split at hj
    · rename_i h
      rw [List.mem_singleton.1 hj]
      have h1 := ndR_lt (T := T) (e k) (t := t) (by omega)
      have h2 := ndR_lt (T := T) (e (1 - k)) (t := t + (goneI out (ps.getD i Psg.zero) (endI (ps.getD i Psg.zero) k)).toNat) (by omega)
      refine ⟨ndR_ne (by omega) (by omega) (by omega), ?_, ?_, ?_, ?_⟩ <;> dsimp only <;> omega
    · cases hj
  have psgs : ∀ t, t ≤ T → ∀ n, n ≤ ps.length → ∀ j ∈ jrPsgs T xs out ps t n, JR P T j := by
    intro t ht n
    induction n with
    | zero => intro _ j hj; cases hj
    | succ n ih =>
      intro hn j hj
      rcases List.mem_append.1 hj with hj | hj
      · exact ih (by omega) j hj
      · rcases List.mem_append.1 hj with hj | hj
        · exact one n (by omega) t ht 0 j hj
        · exact one n (by omega) t ht 1 j hj
  have heads : ∀ n, n ≤ T + 1 → ∀ j ∈ jrHeads T xs out ps n, JR P T j := by
    intro n
    induction n with
    | zero => intro _ j hj; cases hj
    | succ n ih =>
      intro hn j hj
      rcases List.mem_append.1 hj with hj | hj
      · exact ih (by omega) j hj
      · exact psgs n (by omega) _ (Nat.le_refl _) j hj
  intro j hj
  rcases List.mem_append.1 hj with hj | hj
  · exact places P (Nat.le_refl _) j hj
  · exact heads _ (Nat.le_refl _) j hj
theorem lay_R (V : StV P ps xs) (hpe : ∀ k, k < pe.length → 0 ≤ pe.getD k 0 ∧ pe.getD k 0 ≤ 1000) : LayR P T pe xs out ps := by
  have hj := jrAll_ok (T := T) (out := out) V hpe
  obtain ⟨W, O, hr⟩ := joins_net (k := P * (T + 1) + 2) (B := 1073741824) (by omega) (jrAll P T pe xs out ps) hj
  exact ⟨fun j h => (hj j h).1, W, O, hr⟩
/-- A full flow of the document's net. -/
def EndR (P T : Nat) (pe xs : List Int) (out : Int) (ps : List Psg) (v : Int) (r : RM) (L : Nat → Int) : Prop := EndN (layR P T pe xs out ps) (roomR P T pe xs out ps) (P * (T + 1)) (P * (T + 1) + 1) v r L
theorem EndP.toN {hs : List Hd} (h : EndP P T pe xs hs v r L) : EndN (layN P T pe xs hs) (layT P T pe xs hs).room (P * (T + 1)) (P * (T + 1) + 1) v r L := ⟨h.fl, h.nn, h.lev, h.full⟩
theorem EndN.toP {hs : List Hd} (h : EndN (layN P T pe xs hs) (layT P T pe xs hs).room (P * (T + 1)) (P * (T + 1) + 1) v r L) : EndP P T pe xs hs v r L := ⟨h.fl, h.nn, h.lev, h.full⟩
theorem endP_ex {hs : List Hd} (O : LayOk P T pe xs hs) : ∃ v r L, EndP P T pe xs hs v r L := by
  obtain ⟨v, r, L, h⟩ := end_ex O.wf O.ok (b := P * (T + 1)) (x := P * (T + 1) + 1) (by show _ < P * (T + 1) + 2; omega) (by show _ < P * (T + 1) + 2; omega) (by omega)
  exact ⟨v, r, L, h.toP⟩
theorem cap_two (V : StV P ps xs) (ho : 0 ≤ out) (hpe : ∀ k, k < pe.length → 0 ≤ pe.getD k 0 ∧ pe.getD k 0 ≤ 1000) {S S' : Nat → Bool} (hb : S (P * (T + 1)) = true) (hx : S (P * (T + 1) + 1) = false) (hb' : S' (P * (T + 1)) = true) (hx' : S' (P * (T + 1) + 1) = false)
    (h : ∀ p, p < P → ∀ t, t ≤ T → onR T S p t = onP P S' p t) : (capJ S (jrAll P T pe xs out ps) = capJ S' (jAll P T pe xs (hds out xs ps))) ∨ (farI ≤ capJ S (jrAll P T pe xs out ps) ∧ farI ≤ capJ S' (jAll P T pe xs (hds out xs ps))) := by
  have hpe' : ∀ p, p < P → 0 ≤ pe.getD p 0 := fun p _ => by
    by_cases h : p < pe.length
    · exact (hpe p h).1
    · rw [List.getD_eq_getElem?_getD, List.getElem?_eq_none (by omega)]; simp
  have hw : ∀ i, i < ps.length → 0 ≤ (ps.getD i Psg.zero).wide := fun i hi => by have := psgOk_iff.1 (V.pas i hi); omega
  have hR := cap_R (out := out) (xs := xs) (T := T) hpe' hw hb hx
  have hP := cap_P (out := out) (T := T) V ho hpe' hb' hx'
  by_cases ht : Tight (onR T S) P T xs
  · refine .inl ?_
    rw [hR.1 ht, hP.1 (tight_congr h ht), begC_congr h, headC_congr V h]
  · exact .inr ⟨hR.2 ht, hP.2 fun h2 => ht (tight_congr (fun p hp t htT => (h p hp t htT).symm) h2)⟩
/-- Both are one. -/
theorem end_same (V : StV P ps xs) (ho : 0 ≤ out) (hpe : ∀ k, k < pe.length → 0 ≤ pe.getD k 0 ∧ pe.getD k 0 ≤ 1000) (h : EndR P T pe xs out ps v r L) (h' : EndP P T pe xs (hds out xs ps) v' r' L') :
    v = v' ∧ ∀ p, p < P → ∀ t, t ≤ T → reached L (ndR T p t) = reached L' (nd P t p) := by
  have OR := lay_R (T := T) (out := out) V hpe
  have OP := lay_ok (T := T) (out := out) V hpe
  have hv' : v' ≤ 10000 := by
    have h1 := EndP.bound OP h' (S := fun v => decide (v = P * (T + 1))) (by simp) (by simp)
    have h2 := cap_begin (P := P) (T := T) (xs := xs) (pe := pe) hpe (hds_ok (out := out) V)
    have := V.size
    omega
  obtain ⟨a1, a2, a3⟩ := EndN.tight h
  obtain ⟨b1, b2, b3⟩ := h'.at_reach OP
  have a3' : capJ (reached L) (jrAll P T pe xs out ps) = v := by rw [← OR.cap]; exact a3
  -- the program's set in the document's net
  have c1 : (fun n => reached L' (toP P T n)) (P * (T + 1)) = true := by show reached L' (toP P T (P * (T + 1))) = true; rw [toP_big (Nat.le_refl _)]; exact b1
  have c2 : (fun n => reached L' (toP P T n)) (P * (T + 1) + 1) = false := by show reached L' (toP P T (P * (T + 1) + 1)) = false; rw [toP_big (by omega)]; exact b2
  have c3 : capJ (fun n => reached L' (toP P T n)) (jrAll P T pe xs out ps) = v' := by
    rcases cap_two (T := T) (pe := pe) (S := fun n => reached L' (toP P T n)) V ho hpe c1 c2 b1 b2 (fun p hp t ht => by show reached L' (toP P T (ndR T p t)) = _; rw [toP_nd hp ht]; rfl) with h1 | h1
    · rw [h1, b3]
    · rw [b3] at h1; unfold farI at h1; omega
  have hle1 : v ≤ v' := by
    have := EndN.bound (S := fun n => reached L' (toP P T n)) OR.ok h c1 c2
    rw [OR.cap, c3] at this
    exact this
  -- the document's set in the program's net
  have d1 : (fun n => reached L (toR P T n)) (P * (T + 1)) = true := by show reached L (toR P T (P * (T + 1))) = true; rw [toR_big (Nat.le_refl _)]; exact a1
  have d2 : (fun n => reached L (toR P T n)) (P * (T + 1) + 1) = false := by show reached L (toR P T (P * (T + 1) + 1)) = false; rw [toR_big (by omega)]; exact a2
  have d3 : capJ (fun n => reached L (toR P T n)) (jAll P T pe xs (hds out xs ps)) = v := by
    rcases cap_two (T := T) (pe := pe) (S := reached L) (S' := fun n => reached L (toR P T n)) V ho hpe a1 a2 d1 d2 (fun p hp t ht => by show _ = reached L (toR P T (nd P t p)); rw [toR_nd hp ht]; rfl) with h1 | h1
    · rw [← h1, a3']
    · rw [a3'] at h1; unfold farI at h1; omega
  have hle2 : v' ≤ v := by
    have := EndP.bound (S := fun n => reached L (toR P T n)) OP h' d1 d2
    rw [d3] at this
    exact this
  have e : v = v' := Int.le_antisymm hle1 hle2
  refine ⟨e, fun p hp t ht => ?_⟩
  have g1 := EndN.inside (S := fun n => reached L' (toP P T n)) h c1 c2 (by rw [OR.cap, c3, e]) (ndR T p t) (by have := ndR_lt (T := T) hp ht; show _ < P * (T + 1) + 2; omega)
  have g2 := EndP.inside (S := fun n => reached L (toR P T n)) OP h' d1 d2 (by rw [d3, e]) (nd P t p) (by have := nd_lt (P := P) (T := T) ht hp; omega)
  have g1' : 0 ≤ L (ndR T p t) → reached L' (nd P t p) = true := fun h0 => by have := g1 h0; rwa [toP_nd hp ht] at this
  have g2' : 0 ≤ L' (nd P t p) → reached L (ndR T p t) = true := fun h0 => by have := g2 h0; rwa [toR_nd hp ht] at this
  unfold reached at g1' g2' ⊢
  exact decide_eq_decide.2 ⟨fun h => of_decide_eq_true (g1' h), fun h => of_decide_eq_true (g2' h)⟩
theorem mfv_R (V : StV P ps xs) (ho : 0 ≤ out) (hpe : ∀ k, k < pe.length → 0 ≤ pe.getD k 0 ∧ pe.getD k 0 ≤ 1000) (h : EndR P T pe xs out ps v r L) : mfv P T pe xs (hds out xs ps) = v := by
  have OP := lay_ok (T := T) (out := out) V hpe
  obtain ⟨v', r', L', h'⟩ := endP_ex OP
  rw [mfv_eq OP h', (end_same V ho hpe h h').1]
/-- The least barrier: the first tick at which a place is reached. -/
theorem mfc_R (V : StV P ps xs) (ho : 0 ≤ out) (hpe : ∀ k, k < pe.length → 0 ≤ pe.getD k 0 ∧ pe.getD k 0 ≤ 1000) (h : EndR P T pe xs out ps v r L) {p : Nat} (hp : p < P) : mfc P T pe xs (hds out xs ps) p = fstB (fun t => reached L (ndR T p t)) (T + 1) := by
  have OP := lay_ok (T := T) (out := out) V hpe
  obtain ⟨v', r', L', h'⟩ := endP_ex OP
  rw [mfc_eq OP h' hp]
  have h2 := (end_same V ho hpe h h').2 p hp
  unfold cutAt
  have key : ∀ n, n ≤ T + 1 → fstB (fun t => decide (0 ≤ L' (nd P t p))) n = fstB (fun t => reached L (ndR T p t)) n := by
    intro n
    induction n with
    | zero => intro _; rfl
    | succ n ih => intro hn; rw [fstB, fstB, ih (by omega), h2 n (by omega)]; rfl
  exact key _ (Nat.le_refl _)
end
end Go.Proofs.Ytlmddkekeoebcaa
