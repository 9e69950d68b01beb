/- Chapter 8: plans of people who leave: which are right, how many are out with them; none has more out than a barrier lets through. -/
import Derived.Test.YtdepakimbagonaaMcu
namespace Go.Proofs.Ytdepakimbagonaa
set_option linter.unusedVariables false
set_option linter.unusedSimpArgs false

section
variable (ps : List Psg) (xs : List Int) (out : Int) (pe : List Int) (l : List Mv)
/-- A move's passage, its ticks, and where it leads. -/
def mvP (m : Mv) : Psg := ps.getD m.pas.toNat Psg.zero
def mvG (m : Mv) : Int := goneI out (mvP ps m) m.fr
def mvO (m : Mv) : Int := othr (mvP ps m) m.fr
def mvIn (m : Mv) : Prop := (0 ≤ m.pas ∧ m.pas < ps.length) ∧ (0 ≤ m.at_ ∧ m.at_ ≤ 60) ∧ (1 ≤ m.many ∧ m.many ≤ 1000)
instance (m : Mv) : Decidable (mvIn ps m) := by unfold mvIn; exact inferInstance
def mvOk (m : Mv) : Bool := decide (mvIn ps m) && (decide (0 ≤ mvG ps out m) && !hasI xs m.fr)
def sameK (m m' : Mv) : Bool := decide (m.pas = m'.pas) && decide (m.fr = m'.fr) && decide (m.at_ = m'.at_)
/-- How many go along a passage from a place at a tick. -/
def totK (m : Mv) : Nat → Int := sm fun k => if sameK (l.getD k Mv.zero) m = true then min (l.getD k Mv.zero).many 1000 else 0
def legT (m : Mv) (t : Int) (p : Nat) : Int := (if m.at_ + mvG ps out m ≤ t ∧ mvO ps m = (p : Int) then m.many else 0) - (if m.at_ ≤ t ∧ m.fr = (p : Int) then m.many else 0)
/-- How many are at a place behind a tick. -/
def thr (t : Int) (p n : Nat) : Int := pe.getD p 0 + sm (fun k => legT ps out (l.getD k Mv.zero) t p) n
def legB (k : Nat) : Bool := mvOk ps xs out (l.getD k Mv.zero) && decide (totK l (l.getD k Mv.zero) l.length ≤ (mvP ps (l.getD k Mv.zero)).wide)
def thrB (P t : Nat) : Bool := allN (fun p => decide (0 ≤ thr ps out pe l t p l.length)) P
def planB (P : Nat) : Bool := allN (legB ps xs out l) l.length && allN (thrB ps out pe l P) 61
def outA (m : Mv) (T : Int) : Int := if hasI xs (mvO ps m) = true ∧ m.at_ + mvG ps out m ≤ T then m.many else 0
def exitN (P : Nat) : Int := sm (fun p => if hasI xs p = true then pe.getD p 0 else 0) P
def outN (P T : Nat) : Int := exitN xs pe P + sm (fun k => outA ps xs out (l.getD k Mv.zero) T) l.length
end
section
variable {P T : Nat} {ps : List Psg} {xs : List Int} {out : Int} {pe bl : List Int} {l : List Mv} {m : Mv}
theorem planB_iff : planB ps xs out pe l P = true ↔ (∀ k, k < l.length → mvOk ps xs out (l.getD k Mv.zero) = true ∧ totK l (l.getD k Mv.zero) l.length ≤ (mvP ps (l.getD k Mv.zero)).wide) ∧ ∀ t : Nat, t ≤ 60 → ∀ p, p < P → 0 ≤ thr ps out pe l t p l.length := by
  unfold planB
  rw [Bool.and_eq_true, allN_iff, allN_iff]
  constructor
  · rintro ⟨h1, h2⟩
    refine ⟨fun k hk => ?_, fun t ht p hp => ?_⟩
    · have := h1 k hk
      unfold legB at this
      simpa using this
    · have := h2 t (by omega)
      unfold thrB at this
      exact of_decide_eq_true (allN_iff.1 this p hp)
  · rintro ⟨h1, h2⟩
    refine ⟨fun k hk => ?_, fun t ht => ?_⟩
    · unfold legB
      simpa using h1 k hk
    · unfold thrB
      exact allN_iff.2 fun p hp => decide_eq_true (h2 t (by omega) p hp)
theorem mvOk_iff : mvOk ps xs out m = true ↔ mvIn ps m ∧ 0 ≤ mvG ps out m ∧ hasI xs m.fr = false := by
  unfold mvOk
  simp only [Bool.and_eq_true, decide_eq_true_eq, Bool.not_eq_true']
/-- What a right move is. -/
structure MvF (P : Nat) (ps : List Psg) (out : Int) (m : Mv) (i e : Nat) : Prop where
  i_lt : i < ps.length
  pas : m.pas = (i : Int)
  e01 : e = 0 ∨ e = 1
  fr : m.fr = endI (ps.getD i Psg.zero) e
  to : mvO ps m = endI (ps.getD i Psg.zero) (1 - e)
  g : 1 ≤ mvG ps out m ∧ mvG ps out m ≤ 20
  frP : 0 ≤ m.fr ∧ m.fr < P
  toP : 0 ≤ mvO ps m ∧ mvO ps m < P
theorem mv_facts (V : StV P ps xs) (h1 : 0 ≤ m.pas ∧ m.pas < ps.length) (h2 : 0 ≤ mvG ps out m) : ∃ i e, MvF P ps out m i e := by
  obtain ⟨i, hi⟩ := Int.eq_ofNat_of_zero_le h1.1
  have hil : i < ps.length := by omega
  have hp := psgOk_iff.1 (V.pas i hil)
  have hP : mvP ps m = ps.getD i Psg.zero := by unfold mvP; rw [hi]; rfl
  unfold mvG at h2
  rw [hP] at h2
  have hg : goneI out (ps.getD i Psg.zero) m.fr ≤ 20 ∧ 1 ≤ goneI out (ps.getD i Psg.zero) m.fr := by
    unfold goneI at h2 ⊢
    split
    · rename_i h; rw [if_pos h] at h2; omega
    · rename_i h
      rw [if_neg h] at h2
      split
      · omega
      · rename_i h3
        rw [if_neg h3] at h2
        split
        · rename_i h4; rw [if_pos h4] at h2; omega
        · omega
  have ho : ¬ othr (ps.getD i Psg.zero) m.fr < 0 := fun h => by unfold goneI at h2; rw [if_pos (.inl h)] at h2; omega
  by_cases ha : (ps.getD i Psg.zero).a = m.fr
  · refine ⟨i, 0, hil, hi, .inl rfl, ?_, ?_, ?_, by omega, ?_⟩
    · unfold endI; rw [if_pos rfl]; exact ha.symm
    · unfold mvO othr endI; rw [hP, if_pos ha, if_neg (by decide)]
    · unfold mvG; rw [hP]; exact ⟨hg.2, hg.1⟩
    · unfold mvO othr; rw [hP, if_pos ha]; omega
  · by_cases hb : (ps.getD i Psg.zero).b = m.fr
    · refine ⟨i, 1, hil, hi, .inr rfl, ?_, ?_, ?_, by omega, ?_⟩
      · unfold endI; rw [if_neg (by decide)]; exact hb.symm
      · unfold mvO othr endI; rw [hP, if_neg ha, if_pos hb, if_pos rfl]
      · unfold mvG; rw [hP]; exact ⟨hg.2, hg.1⟩
      · unfold mvO othr; rw [hP, if_neg ha, if_pos hb]; omega
    · exfalso; apply ho; unfold othr; rw [if_neg ha, if_neg hb]; omega
/-- What goes across a barrier. -/
def crossK (ps : List Psg) (out : Int) (bl : List Int) (m : Mv) : Int := if bl.getD m.fr.toNat 0 ≤ m.at_ ∧ m.at_ + mvG ps out m < bl.getD (mvO ps m).toNat 0 then m.many else 0
theorem cross_head (V : StV P ps xs) (hb : barOk P T xs bl = true) (hl : ∀ k, k < l.length → mvOk ps xs out (l.getD k Mv.zero) = true ∧ totK l (l.getD k Mv.zero) l.length ≤ (mvP ps (l.getD k Mv.zero)).wide) :
    sm (fun k => crossK ps out bl (l.getD k Mv.zero)) l.length ≤ headC (barU bl) T xs out ps := by
  obtain ⟨hbl, hbk⟩ := barOk_ok hb
  let kt : Nat → Nat → Nat → Nat → Int := fun k t i e => if ((l.getD k Mv.zero).pas = (i : Int) ∧ (l.getD k Mv.zero).fr = endI (ps.getD i Psg.zero) e) ∧ (l.getD k Mv.zero).at_ = (t : Int) then crossK ps out bl (l.getD k Mv.zero) else 0
  have hc0 : ∀ k, k < l.length → 0 ≤ crossK ps out bl (l.getD k Mv.zero) := fun k hk => by
    have := ((mvOk_iff.1 (hl k hk).1).1).2.2
    unfold crossK; split <;> omega
  have hk0 : ∀ k, k < l.length → ∀ t i e, 0 ≤ kt k t i e := fun k hk t i e => by
    show 0 ≤ ite _ _ _
    split
    · exact hc0 k hk
    · omega
  have h1 : sm (fun k => crossK ps out bl (l.getD k Mv.zero)) l.length ≤ sm (fun k => sm (fun t => sm (fun i => kt k t i 0 + kt k t i 1) ps.length) (T + 1)) l.length := by
    refine sm_le fun k hk => ?_
    by_cases hz : crossK ps out bl (l.getD k Mv.zero) = 0
    · rw [hz]
      exact sm_nonneg fun t _ => sm_nonneg fun i _ => by have := hk0 k hk t i 0; have := hk0 k hk t i 1; omega
    · obtain ⟨⟨hpas, hat, hmany⟩, hg, hx⟩ := mvOk_iff.1 (hl k hk).1
      obtain ⟨i, e, F⟩ := mv_facts V hpas hg
      obtain ⟨t, ht⟩ := Int.eq_ofNat_of_zero_le hat.1
      have htT : t < T + 1 := by
        unfold crossK at hz
        by_cases hc : bl.getD (l.getD k Mv.zero).fr.toNat 0 ≤ (l.getD k Mv.zero).at_ ∧ (l.getD k Mv.zero).at_ + mvG ps out (l.getD k Mv.zero) < bl.getD (mvO ps (l.getD k Mv.zero)).toNat 0
        · have h9 := hbk (mvO ps (l.getD k Mv.zero)).toNat (by have := F.toP; omega)
          have := F.g
          omega
        · rw [if_neg hc] at hz; exact absurd rfl hz
      have hke : kt k t i e = crossK ps out bl (l.getD k Mv.zero) := if_pos ⟨⟨F.pas, F.fr⟩, ht⟩
      have h2 : crossK ps out bl (l.getD k Mv.zero) ≤ kt k t i 0 + kt k t i 1 := by
        have h3 := hk0 k hk t i 0
        have h4 := hk0 k hk t i 1
        rcases F.e01 with rfl | rfl <;> omega
      have h5 := sm_mem (f := fun i => kt k t i 0 + kt k t i 1) (n := ps.length) (p := i) (fun i _ => by have := hk0 k hk t i 0; have := hk0 k hk t i 1; omega) F.i_lt
      have h6 := sm_mem (f := fun t => sm (fun i => kt k t i 0 + kt k t i 1) ps.length) (n := T + 1) (p := t) (fun t _ => sm_nonneg fun i _ => by have := hk0 k hk t i 0; have := hk0 k hk t i 1; omega) htT
      omega
  refine Int.le_trans h1 ?_
  rw [sm_swap]
  unfold headC
  refine sm_le fun t ht => ?_
  rw [sm_swap]
  refine sm_le fun i hi => ?_
  rw [sm_add]
  have key : ∀ e, e = 0 ∨ e = 1 → sm (fun k => kt k t i e) l.length ≤ pC (barU bl) T xs out (ps.getD i Psg.zero) t e := by
    intro e he
    have hpn := pC_nn (T := T) (out := out) (U := barU bl) V hi (t := t) (k := e)
    by_cases hx : ∃ k, k < l.length ∧ kt k t i e ≠ 0
    · obtain ⟨k, hk, hne⟩ := hx
      have hkey : ((l.getD k Mv.zero).pas = (i : Int) ∧ (l.getD k Mv.zero).fr = endI (ps.getD i Psg.zero) e) ∧ (l.getD k Mv.zero).at_ = (t : Int) := by
        refine Classical.byContradiction fun hno => hne ?_
        show ite _ _ _ = _
        rw [if_neg hno]
      have hcr : bl.getD (l.getD k Mv.zero).fr.toNat 0 ≤ (l.getD k Mv.zero).at_ ∧ (l.getD k Mv.zero).at_ + mvG ps out (l.getD k Mv.zero) < bl.getD (mvO ps (l.getD k Mv.zero)).toNat 0 := by
        refine Classical.byContradiction fun hno => hne ?_
        show ite _ _ _ = _
        rw [if_pos hkey]
        unfold crossK
        rw [if_neg hno]
      obtain ⟨⟨hpas, hat, hmany⟩, hg, hxf⟩ := mvOk_iff.1 (hl k hk).1
      obtain ⟨i', e', F⟩ := mv_facts V hpas hg
      have hii : i' = i := by have := F.pas; have := hkey.1.1; omega
      subst hii
      have hee : e' = e := by
        have h7 := F.fr
        have h8 := hkey.1.2
        have hp := psgOk_iff.1 (V.pas i' hi)
        unfold endI at h7 h8
        rcases F.e01 with rfl | rfl <;> rcases he with rfl | rfl
        · rfl
        · exfalso; rw [if_pos rfl] at h7; rw [if_neg (by decide)] at h8; omega
        · exfalso; rw [if_neg (by decide)] at h7; rw [if_pos rfl] at h8; omega
        · rfl
      subst hee
      have hwide : sm (fun k => kt k t i' e') l.length ≤ totK l (l.getD k Mv.zero) l.length := by
        refine sm_le fun q hq => ?_
        have hq1 := ((mvOk_iff.1 (hl q hq).1).1).2.2
        show (ite _ _ _ : Int) ≤ ite _ _ _
        by_cases hs : ((l.getD q Mv.zero).pas = (i' : Int) ∧ (l.getD q Mv.zero).fr = endI (ps.getD i' Psg.zero) e') ∧ (l.getD q Mv.zero).at_ = (t : Int)
        · rw [if_pos hs, if_pos]
          · unfold crossK; split <;> omega
          · unfold sameK
            rw [hkey.1.1, hkey.1.2, hkey.2, decide_eq_true hs.1.1, decide_eq_true hs.1.2, decide_eq_true hs.2]; rfl
        · rw [if_neg hs]; split <;> omega
      have hP : mvP ps (l.getD k Mv.zero) = ps.getD i' Psg.zero := by unfold mvP; rw [F.pas]; rfl
      have h9 := (hl k hk).2
      rw [hP] at h9
      refine Int.le_trans hwide (Int.le_trans h9 (Int.le_of_eq ?_))
      rw [pC_bar V (fun p hp hx => (hbk p (by omega)).2 hx) hi (by omega), if_pos]
      have hG : mvG ps out (l.getD k Mv.zero) = goneI out (ps.getD i' Psg.zero) (endI (ps.getD i' Psg.zero) e') := by unfold mvG; rw [hP, ← F.fr]
      have h7 := hbk (mvO ps (l.getD k Mv.zero)).toNat (by have := F.toP; omega)
      have hg1 := F.g
      rw [← hG, ← F.fr, ← F.to, ← hkey.2]
      exact ⟨⟨⟨by omega, hcr.1⟩, by omega⟩, hcr.2⟩
    · rw [sm_zero (fun k hk => Classical.byContradiction fun hno => hx ⟨k, hk, hno⟩)]
      exact hpn
  have h0 := key 0 (.inl rfl)
  have h1 := key 1 (.inr rfl)
  omega
/-- No right plan has more people out than a barrier lets through. -/
theorem plan_bar (V : StV P ps xs) (hT : T ≤ 60) (hl : planB ps xs out pe l P = true) (hb : barOk P T xs bl = true) : outN ps xs out pe l P T ≤ bndV P T ps xs out pe bl := by
  obtain ⟨hk, ht⟩ := planB_iff.1 hl
  obtain ⟨hbl, hbk⟩ := barOk_ok hb
  have hcross := cross_head (out := out) V hb hk
  let A : Nat → Nat → Int := fun p k => if (l.getD k Mv.zero).at_ + mvG ps out (l.getD k Mv.zero) < bl.getD p 0 ∧ mvO ps (l.getD k Mv.zero) = (p : Int) then (l.getD k Mv.zero).many else 0
  let D : Nat → Nat → Int := fun p k => if (l.getD k Mv.zero).at_ < bl.getD p 0 ∧ (l.getD k Mv.zero).fr = (p : Int) then (l.getD k Mv.zero).many else 0
  let w : Nat → Int := fun p => (if barU bl p 0 = false then pe.getD p 0 else 0) + sm (fun k => A p k - D p k) l.length
  have hkf : ∀ k, k < l.length → (0 ≤ (l.getD k Mv.zero).at_ ∧ 1 ≤ (l.getD k Mv.zero).many ∧ 1 ≤ mvG ps out (l.getD k Mv.zero)) ∧ (0 ≤ (l.getD k Mv.zero).fr ∧ (l.getD k Mv.zero).fr < P) ∧ (0 ≤ mvO ps (l.getD k Mv.zero) ∧ mvO ps (l.getD k Mv.zero) < P) ∧ hasI xs (l.getD k Mv.zero).fr = false := fun k hq => by
    obtain ⟨⟨hpas, hat, hmany⟩, hg, hx⟩ := mvOk_iff.1 (hk k hq).1
    obtain ⟨i, e, F⟩ := mv_facts V hpas hg
    exact ⟨⟨hat.1, hmany.1, F.g.1⟩, F.frP, F.toP, hx⟩
  have hw : ∀ p, p < P → w p = if 0 < bl.getD p 0 then thr ps out pe l (bl.getD p 0 - 1) p l.length else 0 := fun p hp => by
    show (if barU bl p 0 = false then pe.getD p 0 else 0) + sm (fun k => A p k - D p k) l.length = _
    by_cases h0 : 0 < bl.getD p 0
    · rw [if_pos h0, if_pos (show barU bl p 0 = false from decide_eq_false (by omega))]
      unfold thr
      congr 1
      refine sm_congr fun k _ => ?_
      show (ite _ _ _ : Int) - ite _ _ _ = ite _ _ _ - ite _ _ _
      have e1 : ∀ z : Int, z < bl.getD p 0 ↔ z ≤ bl.getD p 0 - 1 := fun z => by omega
      simp only [e1]
    · rw [if_neg h0, if_neg (show ¬ barU bl p 0 = false from fun h => by have := of_decide_eq_false h; omega), sm_zero]
      · rfl
      · intro k hq
        have h1 := hkf k hq
        show (ite _ _ _ : Int) - ite _ _ _ = 0
        rw [if_neg (fun h => by have := h.1; omega), if_neg (fun h => by have := h.1; omega)]
        rfl
  have hw0 : ∀ p, p < P → 0 ≤ w p := fun p hp => by
    rw [hw p hp]
    split
    · rename_i h0
      have h1 := (hbk p (by omega)).1
      have h2 := ht (bl.getD p 0 - 1).toNat (by omega) p hp
      rw [Int.toNat_of_nonneg (by omega)] at h2
      exact h2
    · exact Int.le_refl 0
  -- all together
  have hsum : sm w P = begC (barU bl) pe P + sm (fun k => sm (fun p => A p k) P - sm (fun p => D p k) P) l.length := by
    show sm (fun p => (if barU bl p 0 = false then pe.getD p 0 else 0) + sm (fun k => A p k - D p k) l.length) P = _
    rw [sm_add, sm_swap]
    unfold begC
    congr 1
    refine sm_congr fun k _ => ?_
    have : sm (fun p => A p k - D p k) P + sm (fun p => D p k) P = sm (fun p => A p k) P := by
      rw [← sm_add]
      exact sm_congr fun p _ => by omega
    omega
  have hA : ∀ k, k < l.length → sm (fun p => A p k) P = if (l.getD k Mv.zero).at_ + mvG ps out (l.getD k Mv.zero) < bl.getD (mvO ps (l.getD k Mv.zero)).toNat 0 then (l.getD k Mv.zero).many else 0 := fun k hq => by
    have h1 := (hkf k hq).2.2.1
    rw [sm_single (p := (mvO ps (l.getD k Mv.zero)).toNat) (by omega) (fun p _ hne => if_neg fun h => by have := h.2; omega)]
    show (ite _ _ _ : Int) = _
    by_cases hc : (l.getD k Mv.zero).at_ + mvG ps out (l.getD k Mv.zero) < bl.getD (mvO ps (l.getD k Mv.zero)).toNat 0
    · rw [if_pos hc, if_pos ⟨hc, by omega⟩]
    · rw [if_neg hc, if_neg (fun h => hc h.1)]
  have hD : ∀ k, k < l.length → sm (fun p => D p k) P = if (l.getD k Mv.zero).at_ < bl.getD (l.getD k Mv.zero).fr.toNat 0 then (l.getD k Mv.zero).many else 0 := fun k hq => by
    have h1 := (hkf k hq).2.1
    rw [sm_single (p := (l.getD k Mv.zero).fr.toNat) (by omega) (fun p _ hne => if_neg fun h => by have := h.2; omega)]
    show (ite _ _ _ : Int) = _
    by_cases hc : (l.getD k Mv.zero).at_ < bl.getD (l.getD k Mv.zero).fr.toNat 0
    · rw [if_pos hc, if_pos ⟨hc, by omega⟩]
    · rw [if_neg hc, if_neg (fun h => hc h.1)]
  have hle : sm (fun k => sm (fun p => A p k) P - sm (fun p => D p k) P) l.length ≤ sm (fun k => crossK ps out bl (l.getD k Mv.zero)) l.length := by
    refine sm_le fun k hq => ?_
    have h1 := (hkf k hq).1
    rw [hA k hq, hD k hq]
    unfold crossK
    by_cases h2 : (l.getD k Mv.zero).at_ + mvG ps out (l.getD k Mv.zero) < bl.getD (mvO ps (l.getD k Mv.zero)).toNat 0
    · rw [if_pos h2]
      by_cases h3 : (l.getD k Mv.zero).at_ < bl.getD (l.getD k Mv.zero).fr.toNat 0
      · rw [if_pos h3, if_neg (fun h => by have := h.1; omega)]; omega
      · rw [if_neg h3, if_pos ⟨by omega, h2⟩]; omega
    · rw [if_neg h2, if_neg (c := bl.getD (l.getD k Mv.zero).fr.toNat 0 ≤ (l.getD k Mv.zero).at_ ∧ _) (fun h => h2 h.2)]
      split <;> omega
  have hout : outN ps xs out pe l P T ≤ sm w P := by
    let B : Nat → Nat → Int := fun p k => if hasI xs p = true ∧ ((l.getD k Mv.zero).at_ + mvG ps out (l.getD k Mv.zero) ≤ T ∧ mvO ps (l.getD k Mv.zero) = (p : Int)) then (l.getD k Mv.zero).many else 0
    have e1 : outN ps xs out pe l P T = sm (fun p => (if hasI xs p = true then pe.getD p 0 else 0) + sm (fun k => B p k) l.length) P := by
      rw [sm_add, sm_swap]
      unfold outN exitN
      congr 1
      refine sm_congr fun k hq => ?_
      have h1 := (hkf k hq).2.2.1
      rw [sm_single (p := (mvO ps (l.getD k Mv.zero)).toNat) (by omega) (fun p _ hne => if_neg fun h => by have := h.2.2; omega)]
      unfold outA
      show (ite _ _ _ : Int) = ite _ _ _
      rw [Int.toNat_of_nonneg h1.1]
      by_cases hc : hasI xs (mvO ps (l.getD k Mv.zero)) = true ∧ (l.getD k Mv.zero).at_ + mvG ps out (l.getD k Mv.zero) ≤ T
      · rw [if_pos hc, if_pos ⟨hc.1, hc.2, rfl⟩]
      · rw [if_neg hc, if_neg (fun h => hc ⟨h.1, h.2.1⟩)]
    rw [e1]
    refine sm_le fun p hp => ?_
    by_cases hx : hasI xs p = true
    · have h1 := hbk p (by omega)
      have h2 := h1.2 hx
      show _ ≤ (if barU bl p 0 = false then pe.getD p 0 else 0) + sm (fun k => A p k - D p k) l.length
      rw [if_pos hx, if_pos (show barU bl p 0 = false from decide_eq_false (by omega))]
      have h3 : sm (fun k => B p k) l.length ≤ sm (fun k => A p k - D p k) l.length := by
        refine sm_le fun k hq => ?_
        have h4 := (hkf k hq).2.2.2
        show (ite _ _ _ : Int) ≤ ite _ _ _ - ite _ _ _
        rw [if_neg (c := (l.getD k Mv.zero).at_ < bl.getD p 0 ∧ (l.getD k Mv.zero).fr = (p : Int)) (fun h => by rw [h.2, hx] at h4; cases h4)]
        have h5 := (hkf k hq).1
        by_cases hc : hasI xs p = true ∧ ((l.getD k Mv.zero).at_ + mvG ps out (l.getD k Mv.zero) ≤ T ∧ mvO ps (l.getD k Mv.zero) = (p : Int))
        · rw [if_pos hc, if_pos ⟨by omega, hc.2.2⟩]; omega
        · rw [if_neg hc]; split <;> omega
      omega
    · have h1 := hw0 p hp
      rw [if_neg hx, sm_zero (fun k _ => if_neg fun h => hx h.1)]
      exact h1
  unfold bndV
  omega
/-- No right plan has more people out than can be. -/
theorem plan_le (V : StV P ps xs) (ho : 0 ≤ out) (hpe : PeOk pe) (hT : T ≤ 60) (hl : planB ps xs out pe l P = true) : outN ps xs out pe l P T ≤ mfv P T pe xs (hds out xs ps) := by
  obtain ⟨h1, h2⟩ := cut_bar (T := T) V ho hpe
  have := plan_bar V hT hl h1
  omega
end
end Go.Proofs.Ytdepakimbagonaa
