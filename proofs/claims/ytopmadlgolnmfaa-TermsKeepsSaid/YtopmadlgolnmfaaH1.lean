/- Chapter 8: nets in general: levels, a full flow; the document's net: a flat list of edges, and the numbers of those of each node. Chapter 8: the document's net of a station, and that it takes just what the program's takes. Chapter 8: along the way that was found; an 'xor' with w8one. Chapter 8: barriers and their bounds. Chapter 8: how many can be out is the least that goes across; what this tells. Chapter 8: plans of people who leave: which are right, how many are out with them; none has more out than a barrier lets through. -/
import Derived.Test.YtopmadlgolnmfaaE4
import Derived.Test.YtopmadlgolnmfaaE1
namespace Go.Proofs.Ytopmadlgolnmfaa
set_option linter.unusedVariables false
set_option linter.unusedSimpArgs false

/-! ## a full flow in any net -/
structure EndN (N : Net) (r0 : RM) (b x : Nat) (v : Int) (r : RM) (L : Nat → Int) : Prop where
  fl : Fl N r0 r b x v
  nn : 0 ≤ v
  lev : LevOk N r b L
  full : L x < 0
section
variable {N : Net} {r r0 r1 r2 : RM} {b x u : Nat} {v v' m B : Int} {L L' : Nat → Int}
theorem resid_congr {S : Nat → Bool} (h : ∀ i, i < N.k → ∀ j, j < N.n i → r2 i j = r1 i j) : resid N r2 S = resid N r1 S := sm_congr fun i hi => sm_congr fun j hj => by rw [h i hi j hj]
theorem Fl.congr (W : N.Wf) (h : Fl N r r1 u x m) (e : ∀ i, i < N.k → ∀ j, j < N.n i → r2 i j = r1 i j) : Fl N r r2 u x m :=
  ⟨fun S => by rw [resid_congr e]; exact h.cut S, fun i hi j hj => by rw [e i hi j hj, e _ (W.to_lt i hi j hj) _ (W.bk_lt i hi j hj)]; exact h.pair i hi j hj, fun i hi j hj => by rw [e i hi j hj]; exact h.nn i hi j hj⟩
theorem ind_bx {S : Nat → Bool} (hb : S b = true) (hx : S x = false) : ind S b - ind S x = 1 := by unfold ind; rw [hb, hx]; rfl
theorem EndN.bound (O : Ok N r0 B) (h : EndN N r0 b x v r L) {S : Nat → Bool} (hb : S b = true) (hx : S x = false) : v ≤ resid N r0 S := by
  have h1 := resid_nn (S := S) (h.fl.ok O)
  rw [h.fl.cut, ind_bx hb hx] at h1
  omega
theorem EndN.inside (h : EndN N r0 b x v r L) {S : Nat → Bool} (hb : S b = true) (hx : S x = false) (hc : resid N r0 S = v) : ∀ u, u < N.k → 0 ≤ L u → S u = true := by
  have h0 : resid N r S = 0 := by rw [h.fl.cut, ind_bx hb hx]; omega
  exact h.lev.least hb (resid_zero h.fl.nn h0)
/-- Levels there are. -/
theorem lev_ex (W : N.Wf) (hb : b < N.k) : ∃ L, LevOk N r b L := by
  have row : ∀ (L : Nat → Int) (q : Nat → Nat) (ql h : Nat), Bfs N r b L q ql h 0 → h < ql → ∃ L' q' ql', Bfs N r b L' q' ql' (h + 1) 0 := by
    intro L q ql h hB hh
    have key : ∀ J, J ≤ N.n (q h) → ∃ L' q' ql', Bfs N r b L' q' ql' h J ∧ q' h = q h ∧ h < ql' := by
      intro J
      induction J with
      | zero => intro _; exact ⟨L, q, ql, hB, rfl, hh⟩
      | succ J ih =>
        intro hJ
        obtain ⟨L', q', ql', hB', he, hl⟩ := ih (by omega)
        by_cases hc : 0 < r (q' h) J ∧ L' (N.to (q' h) J) < 0
        · exact ⟨_, _, _, hB'.visit W hl (by rw [he]; omega) hc.1 hc.2, by rw [upd_ne _ _ (by omega)]; exact he, by omega⟩
        · exact ⟨_, _, _, hB'.skip hc, he, hl⟩
    obtain ⟨L', q', ql', hB', he, _⟩ := key (N.n (q h)) (Nat.le_refl _)
    exact ⟨L', q', ql', hB'.next (by rw [he]; omega)⟩
  have key : ∀ (d h : Nat) (L : Nat → Int) (q : Nat → Nat) (ql : Nat), Bfs N r b L q ql h 0 → N.k - h ≤ d → ∃ L, LevOk N r b L := by
    intro d
    induction d with
    | zero => intro h L q ql hB hd; exact ⟨L, hB.done (by have := hB.le; omega)⟩
    | succ d ih =>
      intro h L q ql hB hd
      by_cases hq : ql ≤ h
      · exact ⟨L, hB.done hq⟩
      · obtain ⟨L', q', ql', hB'⟩ := row L q ql h hB (by omega)
        exact ih (h + 1) L' q' ql' hB' (by have := hB.le; omega)
  exact key _ 0 _ _ 1 (Bfs.start (L := fun v => if v = b then 0 else -1) (q := fun _ => b) hb (fun _ _ => rfl) rfl) (Nat.le_refl _)
/-- One more along a way. -/
theorem push_one (W : N.Wf) (O : Ok N r B) (hp : Path N r L x u) : u < N.k → ∃ r', Fl N r r' u x 1 ∧ ∀ i, i < N.k → ∀ q, q < N.n i → L i < L u → r' i q = r i q := by
  induction hp with
  | stop => intro _; exact ⟨r, Fl.here O, fun _ _ _ _ _ => rfl⟩
  | @step u j hj hr hl _ ih =>
    intro hu
    obtain ⟨r', hF, hlow⟩ := ih (W.to_lt u hu j hj)
    have e := hlow u hu j hj (by omega)
    refine ⟨along N r' u j 1, Fl.step W hu hj hF (by omega) (by omega), fun i hi q hq hL => ?_⟩
    rw [along_ne (fun h => by rw [h.1] at hL; omega) (fun h => by rw [h.1] at hL; omega)]
    exact hlow i hi q hq (by omega)
/-- A full flow there is. -/
theorem end_ex (W : N.Wf) (O : Ok N r0 B) (hb : b < N.k) (hx : x < N.k) (hbx : b ≠ x) : ∃ v r L, EndN N r0 b x v r L := by
  have bnd : ∀ {v r}, Fl N r0 r b x v → v ≤ resid N r0 (fun v => decide (v = b)) := fun {v r} hF => by
    have h1 := resid_nn (S := fun v => decide (v = b)) (hF.ok O)
    rw [hF.cut, ind_bx (by simp) (by simp; exact fun e => hbx e.symm)] at h1
    omega
  have key : ∀ (d : Nat) (v : Int) (r : RM), Fl N r0 r b x v → 0 ≤ v → (resid N r0 (fun v => decide (v = b)) - v).toNat ≤ d → ∃ v r L, EndN N r0 b x v r L := by
    intro d
    induction d with
    | zero =>
      intro v r hF h0 hd
      obtain ⟨L, hL⟩ := lev_ex (r := r) W hb
      by_cases hf : L x < 0
      · exact ⟨v, r, L, hF, h0, hL, hf⟩
      · obtain ⟨r', hF', _⟩ := push_one W (hF.ok O) (path_of hL hx (by omega)) hb
        have := bnd (hF.more hF')
        omega
    | succ d ih =>
      intro v r hF h0 hd
      obtain ⟨L, hL⟩ := lev_ex (r := r) W hb
      by_cases hf : L x < 0
      · exact ⟨v, r, L, hF, h0, hL, hf⟩
      · obtain ⟨r', hF', _⟩ := push_one W (hF.ok O) (path_of hL hx (by omega)) hb
        have hF2 := hF.more hF'
        have := bnd hF2
        exact ih _ _ hF2 (by omega) (by omega)
  exact key _ 0 r0 (Fl.zero O) (Int.le_refl _) (Nat.le_refl _)
end

/-! ## the document's edges -/
structure Eg where
  f : Nat
  t : Nat
  pas : Int
  tick : Int
def Eg.zero : Eg := ⟨0, 0, 0, 0⟩
def Jn.zero : Jn := ⟨0, 0, 0, Mv.none⟩
def ixs (E : List Eg) (i : Nat) : List Nat := (List.range E.length).filter fun e => decide ((E.getD e Eg.zero).f = i)
/-- The edge that leads back. -/
def tw (e : Nat) : Nat := if e % 2 = 0 then e + 1 else e - 1
/-- The flat edges are those of a net. -/
structure Lk (N : Net) (E : List Eg) : Prop where
  len : ∀ i, i < N.k → (ixs E i).length = N.n i
  lt : ∀ i, i < N.k → ∀ q, q < N.n i → (ixs E i).getD q 0 < E.length
  ef : ∀ i, i < N.k → ∀ q, q < N.n i → (E.getD ((ixs E i).getD q 0) Eg.zero).f = i
  et : ∀ i, i < N.k → ∀ q, q < N.n i → (E.getD ((ixs E i).getD q 0) Eg.zero).t = N.to i q
  tw : ∀ i, i < N.k → ∀ q, q < N.n i → (ixs E (N.to i q)).getD (N.back i q) 0 = tw ((ixs E i).getD q 0)
  inj : ∀ i, i < N.k → ∀ q q', q < N.n i → q' < N.n i → (ixs E i).getD q 0 = (ixs E i).getD q' 0 → q = q'
  evn : E.length % 2 = 0
def rmE (E : List Eg) (r : Nat → Int) : RM := fun i q => r ((ixs E i).getD q 0)
theorem tw_ne {e : Nat} : tw e ≠ e := by unfold tw; split <;> omega
/-- So many more go along an edge. -/
def pushE (r : Nat → Int) (e : Nat) (m : Int) : Nat → Int := upd (upd r e (r e - m)) (tw e) (r (tw e) + m)
section
variable {N : Net} {E : List Eg} {r : Nat → Int} {u j : Nat} {m B : Int}
theorem pushE_at : pushE r u m u = r u - m := by unfold pushE; rw [upd_ne _ _ (fun e => tw_ne e.symm), upd_same]
theorem pushE_tw : pushE r u m (tw u) = r (tw u) + m := upd_same _ _ _
theorem pushE_ne {e : Nat} (h1 : e ≠ u) (h2 : e ≠ tw u) : pushE r u m e = r e := by unfold pushE; rw [upd_ne _ _ h2, upd_ne _ _ h1]
theorem Lk.push (K : Lk N E) (W : N.Wf) (hu : u < N.k) (hj : j < N.n u) : ∀ i, i < N.k → ∀ q, q < N.n i → rmE E (pushE r ((ixs E u).getD j 0) m) i q = along N (rmE E r) u j m i q := by
  intro i hi q hq
  have htk := W.to_lt u hu j hj
  have hbk := W.bk_lt u hu j hj
  have same : ∀ {i q i' q'}, i < N.k → q < N.n i → i' < N.k → q' < N.n i' → (ixs E i).getD q 0 = (ixs E i').getD q' 0 → i = i' ∧ q = q' := by
    intro i q i' q' hi hq hi' hq' e
    have e1 : i = i' := by rw [← K.ef i hi q hq, e, K.ef i' hi' q' hq']
    subst e1
    exact ⟨rfl, K.inj i hi q q' hq hq' e⟩
  show pushE r ((ixs E u).getD j 0) m ((ixs E i).getD q 0) = _
  by_cases h1 : i = u ∧ q = j
  · obtain ⟨rfl, rfl⟩ := h1
    rw [pushE_at, along_at W hi hq]; rfl
  · by_cases h2 : i = N.to u j ∧ q = N.back u j
    · obtain ⟨rfl, rfl⟩ := h2
      rw [along_bk, K.tw u hu j hj, pushE_tw]
      show _ = r ((ixs E (N.to u j)).getD (N.back u j) 0) + m
      rw [K.tw u hu j hj]
    · rw [along_ne h1 h2, pushE_ne (fun e => h1 (same hi hq hu hj e)) (fun e => h2 (same hi hq htk hbk (by rw [K.tw u hu j hj]; exact e)))]; rfl
/-- What was found: and by which edge. -/
structure Rch (N : Net) (E : List Eg) (r : Nat → Int) (b : Nat) (L : Nat → Int) (by_ : Nat → Nat) : Prop where
  from_ : ∀ v, v < N.k → 0 ≤ L v → v = b ∨ ∃ u, u < N.k ∧ ∃ j, j < N.n u ∧ 0 ≤ L u ∧ 0 < rmE E r u j ∧ N.to u j = v ∧ L v = L u + 1 ∧ by_ v = (ixs E u).getD j 0
theorem Rch.start {b : Nat} (hb : b < N.k) {L : Nat → Int} (hL : ∀ v, v < N.k → L v = if v = b then 0 else -1) {by_ : Nat → Nat} : Rch N E r b L by_ := ⟨fun v hv h0 => by
  rw [hL v hv] at h0
  split at h0
  · rename_i e; exact .inl e
  · omega⟩
theorem Rch.visit {b : Nat} {L : Nat → Int} {by_ : Nat → Nat} (h : Rch N E r b L by_) (hu : u < N.k) (hj : j < N.n u) (h0 : 0 ≤ L u) (hr : 0 < rmE E r u j) (hv : L (N.to u j) < 0) :
    Rch N E r b (upd L (N.to u j) (L u + 1)) (upd by_ (N.to u j) ((ixs E u).getD j 0)) := ⟨fun v hv' h0' => by
  have hne : ∀ v, 0 ≤ L v → v ≠ N.to u j := fun v h0 e => by subst e; omega
  by_cases e : v = N.to u j
  · subst e
    rw [upd_same, upd_same]
    exact .inr ⟨u, hu, j, hj, by rw [upd_ne _ _ (hne u h0)]; exact h0, hr, rfl, by rw [upd_ne _ _ (hne u h0)], rfl⟩
  · rw [upd_ne _ _ e] at h0'
    rcases h.from_ v hv' h0' with h1 | ⟨u', hu', j', hj', g1, g2, g3, g4, g5⟩
    · exact .inl h1
    · refine .inr ⟨u', hu', j', hj', ?_, g2, g3, ?_, ?_⟩
      · rw [upd_ne _ _ (hne u' g1)]; exact g1
      · rw [upd_ne _ _ e, upd_ne _ _ (hne u' g1)]; exact g4
      · rw [upd_ne _ _ e]; exact g5⟩
end
end Go.Proofs.Ytopmadlgolnmfaa

namespace Go.Proofs.Ytopmadlgolnmfaa
set_option linter.unusedVariables false
set_option linter.unusedSimpArgs false

/-! ## the document's joins -/
def farI : Int := 1073741824
def goneI (out : Int) (p : Psg) (place : Int) : Int :=
  if othr p place < 0 ∨ p.kind = 4 then -1 else if p.kind = 3 ∧ bitI out p.mach = 1 then p.still else if p.kind = 3 ∧ place = p.b then -1 else p.ticks
def endI (p : Psg) (k : Nat) : Int := if k = 0 then p.a else p.b
/-! ## what goes across a set -/
def cr (S : Nat → Bool) (f t : Nat) (c : Int) : Int := if S f = true ∧ S t = false then c else 0
theorem capJ_cons (S : Nat → Bool) (j : Jn) (J : List Jn) : capJ S (j :: J) = cr S j.f j.t j.room + capJ S J := rfl
theorem cr_nn {S : Nat → Bool} {f t : Nat} {c : Int} (h : 0 ≤ c) : 0 ≤ cr S f t c := by unfold cr; split <;> omega
def onP (P : Nat) (S : Nat → Bool) (p t : Nat) : Bool := S (nd P t p)
/-- What a direction takes. -/
def hC (U : Nat → Nat → Bool) (T : Nat) (f t : Nat) (d : Int) (c : Int) (tick : Nat) : Int := if (tick : Int) + d ≤ T ∧ U f tick = true ∧ U t (tick + d.toNat) = false then c else 0
/-- The directions of a passage, as the document goes through them. -/
def pC (U : Nat → Nat → Bool) (T : Nat) (xs : List Int) (out : Int) (p : Psg) (tick k : Nat) : Int := if 0 ≤ goneI out p (endI p k) ∧ hasI xs (endI p k) = false then hC U T (endI p k).toNat (endI p (1 - k)).toNat (goneI out p (endI p k)) p.wide tick else 0
def headC (U : Nat → Nat → Bool) (T : Nat) (xs : List Int) (out : Int) (ps : List Psg) : Int := sm (fun t => sm (fun i => pC U T xs out (ps.getD i Psg.zero) t 0 + pC U T xs out (ps.getD i Psg.zero) t 1) ps.length) (T + 1)
def begC (U : Nat → Nat → Bool) (pe : List Int) (P : Nat) : Int := sm (fun p => if U p 0 = false then pe.getD p 0 else 0) P
/-- No edge without a bound leads out. -/
def Tight (U : Nat → Nat → Bool) (P T : Nat) (xs : List Int) : Prop := ∀ p, p < P → (hasI xs p = true → ∀ t, t ≤ T → U p t = false) ∧ (hasI xs p = false → ∀ t, t < T → U p t = true → U p (t + 1) = true)
section
variable {P T : Nat} {pe xs : List Int} {out : Int} {ps : List Psg} {S : Nat → Bool}
theorem cr_one {f t : Nat} {c : Int} {mv : Mv} : capJ S [⟨f, t, c, mv⟩] = cr S f t c := by rw [capJ_cons]; exact Int.add_zero _
theorem sm_swap {f : Nat → Nat → Int} {m : Nat} : ∀ {n : Nat}, sm (fun i => sm (fun j => f i j) m) n = sm (fun j => sm (fun i => f i j) n) m := by
  intro n
  induction n with
  | zero => exact (sm_zero fun _ _ => rfl).symm
  | succ n ih => rw [sm, ih, ← sm_add]; exact sm_congr fun j _ => rfl
theorem jHeadN_cap {h : Hd} : ∀ n, capJ S (jHeadN P h n) = sm (fun t => cr S (nd P t h.fr.toNat) (nd P (t + h.ticks.toNat) h.to.toNat) h.wide) n := by
  intro n
  induction n with
  | zero => rfl
  | succ n ih =>
    have e : jHeadN P h (n + 1) = jHeadN P h n ++ [jHead P h n] := range_snoc n
    rw [e, capJ_append, ih, sm]
    congr 1
    exact cr_one
theorem sm_cut {f : Nat → Int} {m : Nat} : ∀ {n : Nat}, m ≤ n → sm (fun t => if t < m then f t else 0) n = sm f m := by
  intro n
  induction n with
  | zero => intro h; have : m = 0 := by omega
            subst this; rfl
  | succ n ih =>
    intro h
    rw [sm]
    by_cases e : m = n + 1
    · subst e; rw [if_pos (by omega), sm]; congr 1; exact sm_congr fun i hi => if_pos (by omega)
    · rw [ih (by omega), if_neg (by omega)]; omega
theorem jHead_cap {h : Hd} (h1 : 1 ≤ h.ticks) : capJ S (jHeadN P h (T + 1 - h.ticks.toNat)) = sm (hC (onP P S) T h.fr.toNat h.to.toNat h.ticks h.wide) (T + 1) := by
  rw [jHeadN_cap, ← sm_cut (n := T + 1) (by omega)]
  refine sm_congr fun t ht => ?_
  unfold hC cr onP
  by_cases h2 : t < T + 1 - h.ticks.toNat
  · rw [if_pos h2]
    by_cases h3 : S (nd P t h.fr.toNat) = true ∧ S (nd P (t + h.ticks.toNat) h.to.toNat) = false
    · rw [if_pos h3, if_pos ⟨by omega, h3⟩]
    · rw [if_neg h3, if_neg (fun h => h3 h.2)]
  · rw [if_neg h2, if_neg (fun h => by omega)]
/-- What a list of directions takes. -/
def hdC (U : Nat → Nat → Bool) (T : Nat) : List Hd → Int
  | [] => 0
  | h :: l => sm (hC U T h.fr.toNat h.to.toNat h.ticks h.wide) (T + 1) + hdC U T l
theorem hdC_append {U : Nat → Nat → Bool} {l l' : List Hd} : hdC U T (l ++ l') = hdC U T l + hdC U T l' := by
  induction l with
  | nil => simp [hdC]
  | cons h l ih => simp only [List.cons_append, hdC, ih]; omega
theorem jHeads_cap {hs : List Hd} (hh : ∀ i, i < hs.length → HdOk P (hs.getD i Hd.zero)) : ∀ n, n ≤ hs.length → capJ S (jHeads P T hs n) = hdC (onP P S) T (hs.take n) := by
  intro n
  induction n with
  | zero => intro _; simp [jHeads, capJ, hdC]
  | succ n ih =>
    intro hn
    have h1 := hh n (by omega)
    unfold HdOk at h1
    rw [jHeads, capJ_append, ih (by omega), jHead_cap (by omega), List.take_succ_eq_append_getElem (by omega), hdC_append]
    congr 1
    rw [List.getD_eq_getElem?_getD, List.getElem?_eq_getElem (by omega)]
    simp [hdC]
theorem sm_nil {n : Nat} : sm (fun _ => (0 : Int)) n = 0 := sm_zero fun _ _ => rfl
theorem hdsOf_cap {U : Nat → Nat → Bool} {k : Nat} (V : StV P ps xs) (hk : k < ps.length) (ho : 0 ≤ out) : hdC U T (hdsOf out xs k (ps.getD k Psg.zero)) = sm (fun t => pC U T xs out (ps.getD k Psg.zero) t 0 + pC U T xs out (ps.getD k Psg.zero) t 1) (T + 1) := by
  have hp := psgOk_iff.1 (V.pas k hk)
  rw [sm_add]
  generalize ps.getD k Psg.zero = p at hp
  have hab : ¬ p.b = p.a := fun h => hp.2.2.2.2.1 h.symm
  have hab' : ¬ p.a = p.b := fun h => hp.2.2.2.2.1 h
  have bt : bitI out p.mach = 0 ∨ bitI out p.mach = 1 := by unfold bitI; omega
  unfold hdsOf
  by_cases h4 : p.kind = 4
  · rw [if_pos h4]
    have z : ∀ k, goneI out p (endI p k) = -1 := fun k => by unfold goneI; rw [if_pos (.inr h4)]
    have e : ∀ k t, pC U T xs out p t k = 0 := fun k t => by unfold pC; rw [z k, if_neg (fun h => by omega)]
    simp only [hdC, e, sm_nil]
    rfl
  · rw [if_neg h4, hdC_append]
    have oA : othr p (endI p 0) = p.b := by unfold othr endI; rw [if_pos rfl]; simp
    have oB : othr p (endI p 1) = p.a := by unfold othr endI; simp only [Nat.one_ne_zero, if_false]; rw [if_neg hab']; simp
    have gA : goneI out p (endI p 0) = hdTicks out p := by
      unfold goneI hdTicks
      rw [oA, if_neg (by omega)]
      by_cases h3 : p.kind = 3 ∧ bitI out p.mach = 1
      · rw [if_pos h3, if_pos ⟨h3.1, by omega⟩]
      · rw [if_neg h3, if_neg (fun h => hab' h.2), if_neg (fun h => h3 ⟨h.1, by omega⟩)]
    have ht : 1 ≤ hdTicks out p := by unfold hdTicks; split <;> omega
    congr 1
    · unfold hdsA
      by_cases hx : hasI xs p.a = true
      · rw [if_pos hx]
        have e : ∀ t, pC U T xs out p t 0 = 0 := fun t => by unfold pC; rw [if_neg (fun h => by have h2 := h.2; unfold endI at h2; rw [if_pos rfl, hx] at h2; cases h2)]
        simp only [hdC, e, sm_nil]
      · rw [if_neg hx]
        have e : ∀ t, pC U T xs out p t 0 = hC U T p.a.toNat p.b.toNat (hdTicks out p) p.wide t := fun t => by
          unfold pC
          rw [gA, if_pos ⟨by omega, by unfold endI; rw [if_pos rfl]; simpa using hx⟩]
          rfl
        simp only [hdC, e]
        exact Int.add_zero _
    · unfold hdsB
      by_cases hb : (hdBack out p && !hasI xs p.b) = true
      · rw [if_pos hb]
        simp only [Bool.and_eq_true, Bool.not_eq_true'] at hb
        have h3 : ¬ (p.kind = 3 ∧ bitI out p.mach = 0) := fun h => by
          have := hb.1
          unfold hdBack at this
          rw [decide_eq_true h.1, decide_eq_true h.2] at this
          cases this
        have gB : goneI out p (endI p 1) = hdTicks out p := by
          unfold goneI hdTicks
          rw [oB, if_neg (by omega)]
          by_cases h5 : p.kind = 3 ∧ bitI out p.mach = 1
          · rw [if_pos h5, if_pos ⟨h5.1, by omega⟩]
          · rw [if_neg h5, if_neg (fun h => h3 ⟨h.1, by have h6 : ¬ bitI out p.mach = 1 := fun e => h5 ⟨h.1, e⟩; omega⟩), if_neg (fun h => h5 ⟨h.1, by omega⟩)]
        have e : ∀ t, pC U T xs out p t 1 = hC U T p.b.toNat p.a.toNat (hdTicks out p) p.wide t := fun t => by
          unfold pC
          rw [gB, if_pos ⟨by omega, hb.2⟩]
          rfl
        simp only [hdC, e]
        exact Int.add_zero _
      · rw [if_neg hb]
        have e : ∀ t, pC U T xs out p t 1 = 0 := fun t => by
          unfold pC
          refine if_neg fun h => hb ?_
          have hx : hasI xs p.b = false := h.2
          rw [hx]
          have h1 := h.1
          unfold goneI at h1
          rw [oB, if_neg (by omega)] at h1
          unfold hdBack
          by_cases h3 : p.kind = 3
          · by_cases h5 : bitI out p.mach = 1
            · rw [decide_eq_false (p := bitI out p.mach = 0) (by omega), Bool.and_false]; rfl
            · rw [if_neg (fun h => h5 h.2), if_pos ⟨h3, rfl⟩] at h1
              omega
          · rw [decide_eq_false h3]; rfl
        simp only [hdC, e, sm_nil]
theorem hds_cap {U : Nat → Nat → Bool} (V : StV P ps xs) (ho : 0 ≤ out) : hdC U T (hds out xs ps) = headC U T xs out ps := by
  have key : ∀ n, n ≤ ps.length → hdC U T (hdsTo out xs ps n) = sm (fun i => sm (fun t => pC U T xs out (ps.getD i Psg.zero) t 0 + pC U T xs out (ps.getD i Psg.zero) t 1) (T + 1)) n := by
    intro n
    induction n with
    | zero => intro _; rfl
    | succ n ih => intro hn; rw [hdsTo, hdC_append, ih (by omega), hdsOf_cap V (by omega) ho]; rfl
  unfold headC hds
  rw [key _ (Nat.le_refl _), sm_swap]
theorem heads_P (V : StV P ps xs) (ho : 0 ≤ out) : capJ S (jHeads P T (hds out xs ps) (hds out xs ps).length) = headC (onP P S) T xs out ps := by
  rw [jHeads_cap (hds_ok V) _ (Nat.le_refl _), List.take_length, hds_cap V ho]
/-! ## places -/
theorem waits_cap {p : Nat} : ∀ n, capJ S (jWaits P p n) = sm (fun t => cr S (nd P t p) (nd P (t + 1) p) plenty) n := by
  intro n
  induction n with
  | zero => rfl
  | succ n ih =>
    have e : jWaits P p (n + 1) = jWaits P p n ++ [jWait P p n] := range_snoc n
    rw [e, capJ_append, ih, sm]
    congr 1
    exact cr_one
theorem exits_cap {p : Nat} : ∀ n, capJ S (jExits P T p n) = sm (fun t => cr S (nd P t p) (P * (T + 1) + 1) plenty) n := by
  intro n
  induction n with
  | zero => rfl
  | succ n ih =>
    have e : jExits P T p (n + 1) = jExits P T p n ++ [jExit P T p n] := range_snoc n
    rw [e, capJ_append, ih, sm]
    congr 1
    exact cr_one
def plC (P T : Nat) (xs : List Int) (S : Nat → Bool) (p : Nat) : Int := sm (fun t => cr S (nd P t p) (nd P (t + 1) p) plenty) T + (if hasI xs p = true then sm (fun t => cr S (nd P t p) (P * (T + 1) + 1) plenty) (T + 1) else 0)
theorem placesP : ∀ n, capJ S (jPlaces P T pe xs n) = sm (fun p => cr S (P * (T + 1)) (nd P 0 p) (pe.getD p 0) + plC P T xs S p) n := by
  intro n
  induction n with
  | zero => rfl
  | succ n ih =>
    rw [jPlaces, capJ_append, ih, sm]
    congr 1
    unfold jPlace
    rw [capJ_cons, capJ_append, waits_cap]
    unfold plC
    congr 2
    split
    · exact exits_cap _
    · rfl
theorem plC_nn {p : Nat} : 0 ≤ plC P T xs S p := by
  unfold plC
  have h1 := sm_nonneg (f := fun t => cr S (nd P t p) (nd P (t + 1) p) plenty) (n := T) (fun t _ => cr_nn (by decide))
  have h2 := sm_nonneg (f := fun t => cr S (nd P t p) (P * (T + 1) + 1) plenty) (n := T + 1) (fun t _ => cr_nn (by decide))
  split <;> omega
theorem cap_P (V : StV P ps xs) (ho : 0 ≤ out) (hpe : ∀ p, p < P → 0 ≤ pe.getD p 0) (hb : S (P * (T + 1)) = true) (hx : S (P * (T + 1) + 1) = false) :
    (Tight (onP P S) P T xs → capJ S (jAll P T pe xs (hds out xs ps)) = begC (onP P S) pe P + headC (onP P S) T xs out ps) ∧ (¬ Tight (onP P S) P T xs → farI ≤ capJ S (jAll P T pe xs (hds out xs ps))) := by
  have hw : ∀ i, i < ps.length → 0 ≤ (ps.getD i Psg.zero).wide := fun i hi => by have := psgOk_iff.1 (V.pas i hi); omega
  have hbeg : ∀ p, cr S (P * (T + 1)) (nd P 0 p) (pe.getD p 0) = if onP P S p 0 = false then pe.getD p 0 else 0 := fun p => by
    unfold cr onP
    by_cases h : S (nd P 0 p) = false
    · rw [if_pos ⟨hb, h⟩, if_pos h]
    · rw [if_neg (fun h2 => h h2.2), if_neg h]
  have hhn : 0 ≤ headC (onP P S) T xs out ps := sm_nonneg fun t _ => sm_nonneg fun i hi => by
    have := hw i hi
    have key : ∀ k, 0 ≤ pC (onP P S) T xs out (ps.getD i Psg.zero) t k := fun k => by unfold pC hC; split; (split <;> omega); omega
    have h0 := key 0
    have h1 := key 1
    omega
  unfold jAll
  rw [capJ_append, heads_P V ho, placesP]
  refine ⟨fun ht => ?_, fun hn => ?_⟩
  · congr 1
    unfold begC
    refine sm_congr fun p hp => ?_
    have h1 := ht p hp
    have hz : plC P T xs S p = 0 := by
      unfold plC
      have e1 : sm (fun t => cr S (nd P t p) (nd P (t + 1) p) plenty) T = 0 := sm_zero fun t htT => by
        unfold cr
        rw [if_neg]
        rintro ⟨h2, h3⟩
        by_cases he : hasI xs p = true
        · have := h1.1 he t (by omega); unfold onP at this; rw [h2] at this; cases this
        · have := h1.2 (by simpa using he) t htT h2; unfold onP at this; rw [h3] at this; cases this
      rw [e1]
      split
      · rename_i he
        rw [sm_zero fun t htT => ?_]
        · rfl
        · unfold cr
          rw [if_neg]
          rintro ⟨h2, _⟩
          have := h1.1 he t (by omega); unfold onP at this; rw [h2] at this; cases this
      · rfl
    rw [hbeg, hz]
    omega
  · have : ∃ p, p < P ∧ plenty ≤ plC P T xs S p := by
      refine Classical.byContradiction fun hno => hn fun p hp => ⟨fun he t ht => ?_, fun he t ht h1 => ?_⟩
      · cases hs : onP P S p t with
        | false => rfl
        | true =>
          exfalso
          apply hno
          refine ⟨p, hp, ?_⟩
          unfold plC
          rw [if_pos he]
          have h2 := sm_mem (f := fun t => cr S (nd P t p) (P * (T + 1) + 1) plenty) (n := T + 1) (fun t _ => cr_nn (by decide)) (p := t) (by omega)
          have h3 := sm_nonneg (f := fun t => cr S (nd P t p) (nd P (t + 1) p) plenty) (n := T) (fun t _ => cr_nn (by decide))
          have h4 : cr S (nd P t p) (P * (T + 1) + 1) plenty = plenty := if_pos ⟨hs, hx⟩
          omega
      · cases hs : onP P S p (t + 1) with
        | true => rfl
        | false =>
          exfalso
          apply hno
          refine ⟨p, hp, ?_⟩
          unfold plC
          have h2 := sm_mem (f := fun t => cr S (nd P t p) (nd P (t + 1) p) plenty) (n := T) (fun t _ => cr_nn (by decide)) (p := t) ht
          have h3 := sm_nonneg (f := fun t => cr S (nd P t p) (P * (T + 1) + 1) plenty) (n := T + 1) (fun t _ => cr_nn (by decide))
          have h4 : cr S (nd P t p) (nd P (t + 1) p) plenty = plenty := if_pos ⟨h1, hs⟩
          split <;> omega
    obtain ⟨p, hp, h2⟩ := this
    have h4 := sm_mem (f := fun p => cr S (P * (T + 1)) (nd P 0 p) (pe.getD p 0) + plC P T xs S p) (n := P) (fun q hq => by
      have h5 := cr_nn (S := S) (f := P * (T + 1)) (t := nd P 0 q) (hpe q hq)
      have h6 := plC_nn (P := P) (T := T) (xs := xs) (S := S) (p := q)
      omega) hp
    have h5 := cr_nn (S := S) (f := P * (T + 1)) (t := nd P 0 p) (hpe p hp)
    have h6 : farI ≤ plenty := by decide
    omega
end

/-! ## both nets -/
def toP (P T : Nat) (n : Nat) : Nat := if n < P * (T + 1) then nd P (n % (T + 1)) (n / (T + 1)) else n
section
variable {P T : Nat} {pe xs : List Int} {out : Int} {ps : List Psg} {S : Nat → Bool}
theorem w8tight_congr {U U' : Nat → Nat → Bool} (h : ∀ p, p < P → ∀ t, t ≤ T → U p t = U' p t) (H : Tight U P T xs) : Tight U' P T xs := fun p hp =>
  ⟨fun he t ht => by rw [← h p hp t ht]; exact (H p hp).1 he t ht, fun he t ht h1 => by rw [← h p hp (t + 1) (by omega)]; exact (H p hp).2 he t ht (by rw [h p hp t (by omega)]; exact h1)⟩
theorem begC_congr {U U' : Nat → Nat → Bool} (h : ∀ p, p < P → ∀ t, t ≤ T → U p t = U' p t) : begC U pe P = begC U' pe P := sm_congr fun p hp => by rw [h p hp 0 (by omega)]
theorem headC_congr {U U' : Nat → Nat → Bool} (V : StV P ps xs) (h : ∀ p, p < P → ∀ t, t ≤ T → U p t = U' p t) : headC U T xs out ps = headC U' T xs out ps := sm_congr fun t ht => sm_congr fun i hi => by
  have hp := psgOk_iff.1 (V.pas i hi)
  have key : ∀ k, pC U T xs out (ps.getD i Psg.zero) t k = pC U' T xs out (ps.getD i Psg.zero) t k := fun k => by
    have e : ∀ k, (endI (ps.getD i Psg.zero) k).toNat < P := fun k => by unfold endI; split <;> omega
    unfold pC
    split
    · rename_i h0
      unfold hC
      by_cases h1 : (t : Int) + goneI out (ps.getD i Psg.zero) (endI (ps.getD i Psg.zero) k) ≤ T
      · rw [h _ (e k) t (by omega), h _ (e (1 - k)) _ (by omega)]
      · rw [if_neg (fun h => h1 h.1), if_neg (fun h => h1 h.1)]
    · rfl
  rw [key 0, key 1]
end
section
variable {P T : Nat} {pe xs : List Int} {out : Int} {ps : List Psg} {S : Nat → Bool} {v v' : Int} {r r' : RM} {L L' : Nat → Int}
theorem EndN.toP {hs : List Hd} (h : EndN (layN P T pe xs hs) (layT P T pe xs hs).room (P * (T + 1)) (P * (T + 1) + 1) v r L) : EndP P T pe xs hs v r L := ⟨h.fl, h.nn, h.lev, h.full⟩
theorem endP_ex {hs : List Hd} (O : LayOk P T pe xs hs) : ∃ v r L, EndP P T pe xs hs v r L := by
  obtain ⟨v, r, L, h⟩ := end_ex O.wf O.ok (b := P * (T + 1)) (x := P * (T + 1) + 1) (by show _ < P * (T + 1) + 2; omega) (by show _ < P * (T + 1) + 2; omega) (by omega)
  exact ⟨v, r, L, h.toP⟩
end
end Go.Proofs.Ytopmadlgolnmfaa

namespace Go.Proofs.Ytopmadlgolnmfaa
set_option linter.unusedVariables false
set_option linter.unusedSimpArgs false
open Go.RowKit

section
variable {N : Net} {E : List Eg} {r r2 : Nat → Int} {b x : Nat} {L : Nat → Int} {by_ : Nat → Nat} {m B : Int}
end
section
variable {P T : Nat} {pe xs : List Int} {out : Int} {ps : List Psg}
end
end Go.Proofs.Ytopmadlgolnmfaa

namespace Go.Proofs.Ytopmadlgolnmfaa
set_option linter.unusedVariables false
set_option linter.unusedSimpArgs false

def barAt (T : Int) (xs bl : List Int) (k : Nat) : Bool := decide (0 ≤ bl.getD k 0 ∧ bl.getD k 0 ≤ T + 1) && (!hasI xs k || decide (bl.getD k 0 = T + 1))
def barOk (P T : Int) (xs bl : List Int) : Bool := decide ((bl.length : Int) = P) && allN (barAt T xs bl) bl.length
/-- The nodes on this side of a barrier. -/
def barU (bl : List Int) (p t : Nat) : Bool := decide (bl.getD p 0 ≤ (t : Int))
def bndV (P T : Nat) (ps : List Psg) (xs : List Int) (out : Int) (pe bl : List Int) : Int := begC (barU bl) pe P + headC (barU bl) T xs out ps
section
variable {P T : Nat} {ps : List Psg} {xs : List Int} {out : Int} {pe bl : List Int} {k : Nat}
theorem bar_all {P T : Int} (hl : (bl.length : Int) = P) (h : allN (barAt T xs bl) bl.length = true) : barOk P T xs bl = true := by unfold barOk; rw [decide_eq_true hl, h]; rfl
theorem barAt_t {T : Int} (h : (0 ≤ bl.getD k 0 ∧ bl.getD k 0 ≤ T + 1) ∧ (hasI xs k = true → bl.getD k 0 = T + 1)) : barAt T xs bl k = true := by
  unfold barAt
  rw [decide_eq_true h.1]
  cases hx : hasI xs k with
  | false => rfl
  | true => rw [decide_eq_true (h.2 hx)]; rfl
theorem barOk_ok {P T : Int} (h : barOk P T xs bl = true) : (bl.length : Int) = P ∧ ∀ k, k < bl.length → (0 ≤ bl.getD k 0 ∧ bl.getD k 0 ≤ T + 1) ∧ (hasI xs k = true → bl.getD k 0 = T + 1) := by
  unfold barOk at h
  simp only [Bool.and_eq_true, decide_eq_true_eq] at h
  refine ⟨h.1, fun k hk => ?_⟩
  have h2 := allN_iff.1 h.2 k hk
  unfold barAt at h2
  simp only [Bool.and_eq_true, decide_eq_true_eq, Bool.or_eq_true, Bool.not_eq_true'] at h2
  exact ⟨h2.1, fun hx => h2.2.resolve_left (by rw [hx]; simp)⟩
/-- The directions of the document, with a barrier. -/
theorem pC_bar (V : StV P ps xs) (hb : ∀ p, p < P → hasI xs p = true → bl.getD p 0 = (T : Int) + 1) {i : Nat} (hi : i < ps.length) {t k : Nat} (ht : t ≤ T) : pC (barU bl) T xs out (ps.getD i Psg.zero) t k =
    if ((0 ≤ goneI out (ps.getD i Psg.zero) (endI (ps.getD i Psg.zero) k) ∧ bl.getD (endI (ps.getD i Psg.zero) k).toNat 0 ≤ (t : Int)) ∧ (t : Int) + goneI out (ps.getD i Psg.zero) (endI (ps.getD i Psg.zero) k) ≤ T) ∧ (t : Int) + goneI out (ps.getD i Psg.zero) (endI (ps.getD i Psg.zero) k) < bl.getD (endI (ps.getD i Psg.zero) (1 - k)).toNat 0 then (ps.getD i Psg.zero).wide else 0 := by
  have hp := psgOk_iff.1 (V.pas i hi)
  have e : 0 ≤ endI (ps.getD i Psg.zero) k ∧ endI (ps.getD i Psg.zero) k < P := by unfold endI; split <;> omega
  unfold pC hC barU
  by_cases h1 : ((0 ≤ goneI out (ps.getD i Psg.zero) (endI (ps.getD i Psg.zero) k) ∧ bl.getD (endI (ps.getD i Psg.zero) k).toNat 0 ≤ (t : Int)) ∧ (t : Int) + goneI out (ps.getD i Psg.zero) (endI (ps.getD i Psg.zero) k) ≤ T) ∧ (t : Int) + goneI out (ps.getD i Psg.zero) (endI (ps.getD i Psg.zero) k) < bl.getD (endI (ps.getD i Psg.zero) (1 - k)).toNat 0
  · have hx : hasI xs (endI (ps.getD i Psg.zero) k) = false := by
      cases hx : hasI xs (endI (ps.getD i Psg.zero) k) with
      | false => rfl
      | true =>
        have := hb (endI (ps.getD i Psg.zero) k).toNat (by omega) (by rw [Int.toNat_of_nonneg e.1]; exact hx)
        omega
    rw [if_pos h1, if_pos ⟨h1.1.1.1, hx⟩, if_pos ⟨h1.1.2, decide_eq_true h1.1.1.2, decide_eq_false (by have := h1.2; push_cast; omega)⟩]
  · rw [if_neg h1]
    split
    · rename_i h2
      rw [if_neg]
      rintro ⟨h3, h4, h5⟩
      have h4 := of_decide_eq_true h4
      have h5 := of_decide_eq_false h5
      apply h1
      push_cast at h5
      exact ⟨⟨⟨h2.1, h4⟩, h3⟩, by omega⟩
    · rfl
end
end Go.Proofs.Ytopmadlgolnmfaa

namespace Go.Proofs.Ytopmadlgolnmfaa
set_option linter.unusedVariables false
set_option linter.unusedSimpArgs false

section
variable {P T : Nat} {ps : List Psg} {xs : List Int} {out : Int} {pe pe' bl : List Int}
def PeOk (pe : List Int) : Prop := ∀ k, k < pe.length → 0 ≤ pe.getD k 0 ∧ pe.getD k 0 ≤ 1000
def cutC (U : Nat → Nat → Bool) (P T : Nat) (ps : List Psg) (xs : List Int) (out : Int) (pe : List Int) : Int := begC U pe P + headC U T xs out ps
/-- The set of nodes of a family. -/
def setP (P T : Nat) (U : Nat → Nat → Bool) (n : Nat) : Bool := if n < P * (T + 1) then U (n % P) (n / P) else decide (n = P * (T + 1))
theorem setP_nd {U : Nat → Nat → Bool} {p t : Nat} (hp : p < P) (ht : t ≤ T) : onP P (setP P T U) p t = U p t := by
  unfold onP setP
  rw [if_pos (nd_lt ht hp)]
  have h1 : nd P t p % P = p := by unfold nd; rw [Nat.mul_add_mod, Nat.mod_eq_of_lt hp]
  have h2 : nd P t p / P = t := by unfold nd; rw [Nat.mul_add_div (by omega), Nat.div_eq_of_lt hp]; rfl
  rw [h1, h2]
theorem mfv_le (V : StV P ps xs) (ho : 0 ≤ out) (hpe : PeOk pe) {U : Nat → Nat → Bool} (hU : Tight U P T xs) : mfv P T pe xs (hds out xs ps) ≤ cutC U P T ps xs out pe := by
  have OP := lay_ok (T := T) (out := out) V hpe
  obtain ⟨v, r, L, h⟩ := endP_ex OP
  rw [mfv_eq OP h]
  have hb : setP P T U (P * (T + 1)) = true := by unfold setP; rw [if_neg (by omega)]; simp
  have hx : setP P T U (P * (T + 1) + 1) = false := by unfold setP; rw [if_neg (by omega)]; simp
  have hpe' : ∀ p, p < P → 0 ≤ pe.getD p 0 := fun p _ => by
    by_cases h : p < pe.length
    · exact (hpe p h).1
    · rw [List.getD_eq_getElem?_getD, List.getElem?_eq_none (by omega)]; simp
  have hc := (cap_P (T := T) V ho hpe' hb hx).1 (w8tight_congr (fun p hp t ht => (setP_nd hp ht).symm) hU)
  have hle := EndP.bound OP h hb hx
  rw [hc, begC_congr (fun p hp t ht => setP_nd hp ht), headC_congr V (fun p hp t ht => setP_nd hp ht)] at hle
  exact hle
/-- What can be reached, by places and ticks. -/
theorem mfv_at (V : StV P ps xs) (ho : 0 ≤ out) (hpe : PeOk pe) {v : Int} {r : RM} {L : Nat → Int} (h : EndP P T pe xs (hds out xs ps) v r L) : Tight (onP P (reached L)) P T xs ∧ v = cutC (onP P (reached L)) P T ps xs out pe := by
  have OP := lay_ok (T := T) (out := out) V hpe
  obtain ⟨b1, b2, b3⟩ := h.at_reach OP
  have hpe' : ∀ p, p < P → 0 ≤ pe.getD p 0 := fun p _ => by
    by_cases h : p < pe.length
    · exact (hpe p h).1
    · rw [List.getD_eq_getElem?_getD, List.getElem?_eq_none (by omega)]; simp
  have hc := cap_P (T := T) V ho hpe' b1 b2
  have hv' : v ≤ 10000 := by
    have h1 := EndP.bound OP h (S := fun v => decide (v = P * (T + 1))) (by simp) (by simp)
    have h2 := cap_begin (P := P) (T := T) (xs := xs) (pe := pe) hpe (hds_ok (out := out) V)
    have := V.size
    omega
  have ht : Tight (onP P (reached L)) P T xs := by
    refine Classical.byContradiction fun hn => ?_
    have := hc.2 hn
    rw [b3] at this
    unfold farI at this
    omega
  exact ⟨ht, by rw [← b3]; exact hc.1 ht⟩
theorem pC_nn (V : StV P ps xs) {U : Nat → Nat → Bool} {i : Nat} (hi : i < ps.length) {t k : Nat} : 0 ≤ pC U T xs out (ps.getD i Psg.zero) t k := by
  have := psgOk_iff.1 (V.pas i hi)
  unfold pC hC
  split
  · split <;> omega
  · omega
/-- At most everybody. -/
theorem mfv_all (V : StV P ps xs) (ho : 0 ≤ out) (hpe : PeOk pe) : mfv P T pe xs (hds out xs ps) ≤ sumI pe P := by
  have h := mfv_le (T := T) (U := fun _ _ => false) V ho hpe (fun p _ => ⟨fun _ _ _ => rfl, fun _ _ _ h => by cases h⟩)
  have hz : headC (fun _ _ => false) T xs out ps = 0 := sm_zero fun t _ => sm_zero fun i _ => by
    have key : ∀ k, pC (fun _ _ => false) T xs out (ps.getD i Psg.zero) t k = 0 := fun k => by
      unfold pC hC
      split
      · exact if_neg (fun h => by cases h.2.1)
      · rfl
    rw [key 0, key 1]; rfl
  unfold cutC at h
  rw [hz] at h
  have e : begC (fun _ _ => false) pe P = sumI pe P := sm_congr fun p _ => by simp
  omega
/-! ## barriers -/
/-- The least barrier, as a list. -/
noncomputable def cutL (P T : Nat) (pe xs : List Int) (hs : List Hd) : List Int := (List.range P).map fun p => ((mfc P T pe xs hs p : Nat) : Int)
theorem cutL_len {hs : List Hd} : (cutL P T pe xs hs).length = P := by unfold cutL; rw [List.length_map, List.length_range]
theorem cutL_at {hs : List Hd} {p : Nat} (hp : p < P) : (cutL P T pe xs hs).getD p 0 = ((mfc P T pe xs hs p : Nat) : Int) := by
  unfold cutL
  rw [List.getD_eq_getElem?_getD, List.getElem?_map, List.getElem?_range hp]; rfl
theorem fst_lt {f : Nat → Bool} {q : Nat} (hf : f q = true) : ∀ {n}, q < n → fstB f n < n := by
  intro n
  induction n with
  | zero => intro h; omega
  | succ n ih =>
    intro h
    rw [fstB]
    by_cases h1 : fstB f n < n
    · rw [if_pos h1]; omega
    · rw [if_neg h1]
      by_cases e : q = n
      · subst e; rw [if_pos hf]; omega
      · exact absurd (ih (by omega)) h1
theorem fst_yes {f : Nat → Bool} : ∀ {n}, fstB f n < n → f (fstB f n) = true ∧ ∀ q, q < fstB f n → f q = false := by
  intro n
  induction n with
  | zero => intro h; omega
  | succ n ih =>
    intro h
    by_cases h1 : fstB f n < n
    · have e : fstB f (n + 1) = fstB f n := by rw [fstB, if_pos h1]
      rw [e]; exact ih h1
    · have hn : ∀ q, q < n → f q = false := fun q hq => by
        cases hb : f q with
        | false => rfl
        | true =>
          exfalso
          exact h1 (fst_lt hb hq)
      have e : fstB f n = n := fst_none hn
      by_cases hf : f n = true
      · have e2 : fstB f (n + 1) = n := by rw [fstB, if_neg (by omega), if_pos hf]
        rw [e2]; exact ⟨hf, hn⟩
      · have e2 : fstB f (n + 1) = n + 1 := by rw [fstB, if_neg (by omega), if_neg hf]
        omega
theorem cut_on (V : StV P ps xs) (ho : 0 ≤ out) (hpe : PeOk pe) {v : Int} {r : RM} {L : Nat → Int} (h : EndP P T pe xs (hds out xs ps) v r L) {p t : Nat} (hp : p < P) (ht : t ≤ T) : barU (cutL P T pe xs (hds out xs ps)) p t = onP P (reached L) p t := by
  have OP := lay_ok (T := T) (out := out) V hpe
  have hT := (mfv_at V ho hpe h).1 p hp
  unfold barU
  rw [cutL_at hp, mfc_eq OP h hp]
  unfold cutAt
  have hle := fst_le (f := fun t => decide (0 ≤ L (nd P t p))) (T + 1)
  have hf := fst_yes (f := fun t => decide (0 ≤ L (nd P t p))) (n := T + 1)
  generalize hm : fstB (fun t => decide (0 ≤ L (nd P t p))) (T + 1) = m at hle hf
  by_cases hx : hasI xs p = true
  · have h1 := hT.1 hx t ht
    rw [h1]
    refine decide_eq_false fun hle2 => ?_
    have h2 := (hf (by omega)).1
    have h3 := hT.1 hx m (by omega)
    unfold onP reached at h3
    rw [h3] at h2; cases h2
  · have hx' : hasI xs p = false := by simpa using hx
    by_cases hmt : m ≤ t
    · have h2 := (hf (by omega)).1
      have up : ∀ d, m + d ≤ T → onP P (reached L) p (m + d) = true := by
        intro d
        induction d with
        | zero => intro _; exact h2
        | succ d ih => intro hd; exact hT.2 hx' (m + d) (by omega) (ih (by omega))
      have h3 := up (t - m) (by omega)
      rw [show m + (t - m) = t by omega] at h3
      rw [h3]
      exact decide_eq_true (by omega)
    · have h4 : onP P (reached L) p t = false := by
        by_cases hmT : m < T + 1
        · exact (hf hmT).2 t (by omega)
        · cases hb : onP P (reached L) p t with
          | false => rfl
          | true =>
            exfalso
            have := fst_lt (f := fun t => decide (0 ≤ L (nd P t p))) (q := t) hb (show t < T + 1 by omega)
            omega
      rw [h4]
      exact decide_eq_false (by omega)
theorem cut_bar (V : StV P ps xs) (ho : 0 ≤ out) (hpe : PeOk pe) : barOk P T xs (cutL P T pe xs (hds out xs ps)) = true ∧ bndV P T ps xs out pe (cutL P T pe xs (hds out xs ps)) = mfv P T pe xs (hds out xs ps) := by
  have OP := lay_ok (T := T) (out := out) V hpe
  obtain ⟨v, r, L, h⟩ := endP_ex OP
  have hat := mfv_at V ho hpe h
  refine ⟨bar_all (by rw [cutL_len]) (allN_iff.2 fun k hk => ?_), ?_⟩
  · rw [cutL_len] at hk
    have hm : mfc P T pe xs (hds out xs ps) k ≤ T + 1 := by rw [mfc_eq OP h hk]; exact fst_le _
    refine barAt_t ⟨by rw [cutL_at hk]; omega, fun hx => ?_⟩
    rw [cutL_at hk]
    refine Classical.byContradiction fun hne => ?_
    have h1 := cut_on V ho hpe h hk (t := mfc P T pe xs (hds out xs ps) k) (by omega)
    rw [(hat.1 k hk).1 hx _ (by omega)] at h1
    unfold barU at h1
    rw [cutL_at hk] at h1
    have := of_decide_eq_false h1
    omega
  · unfold bndV
    rw [begC_congr (fun p hp t ht => cut_on V ho hpe h hp ht), headC_congr V (fun p hp t ht => cut_on V ho hpe h hp ht), mfv_eq OP h]
    exact hat.2.symm
end
end Go.Proofs.Ytopmadlgolnmfaa

namespace Go.Proofs.Ytopmadlgolnmfaa
set_option linter.unusedVariables false
set_option linter.unusedSimpArgs false

section
variable (ps : List Psg) (xs : List Int) (out : Int) (pe : List Int) (l : List Mv)
/-- A move's passage, its ticks, and where it leads. -/
def mvP (m : Mv) : Psg := ps.getD m.pas.toNat Psg.zero
def mvG (m : Mv) : Int := goneI out (mvP ps m) m.fr
def mvO (m : Mv) : Int := othr (mvP ps m) m.fr
def mvIn (m : Mv) : Prop := (0 ≤ m.pas ∧ m.pas < ps.length) ∧ (0 ≤ m.at_ ∧ m.at_ ≤ 60) ∧ (1 ≤ m.many ∧ m.many ≤ 1000)
instance (m : Mv) : Decidable (mvIn ps m) := by unfold mvIn; exact inferInstance
def mvOk (m : Mv) : Bool := decide (mvIn ps m) && (decide (0 ≤ mvG ps out m) && !hasI xs m.fr)
def sameK (m m' : Mv) : Bool := decide (m.pas = m'.pas) && decide (m.fr = m'.fr) && decide (m.at_ = m'.at_)
/-- How many go along a passage from a place at a tick. -/
def totK (m : Mv) : Nat → Int := sm fun k => if sameK (l.getD k Mv.zero) m = true then min (l.getD k Mv.zero).many 1000 else 0
def legT (m : Mv) (t : Int) (p : Nat) : Int := (if m.at_ + mvG ps out m ≤ t ∧ mvO ps m = (p : Int) then m.many else 0) - (if m.at_ ≤ t ∧ m.fr = (p : Int) then m.many else 0)
/-- How many are at a place behind a tick. -/
def thr (t : Int) (p n : Nat) : Int := pe.getD p 0 + sm (fun k => legT ps out (l.getD k Mv.zero) t p) n
def legB (k : Nat) : Bool := mvOk ps xs out (l.getD k Mv.zero) && decide (totK l (l.getD k Mv.zero) l.length ≤ (mvP ps (l.getD k Mv.zero)).wide)
def thrB (P t : Nat) : Bool := allN (fun p => decide (0 ≤ thr ps out pe l t p l.length)) P
def planB (P : Nat) : Bool := allN (legB ps xs out l) l.length && allN (thrB ps out pe l P) 61
def outA (m : Mv) (T : Int) : Int := if hasI xs (mvO ps m) = true ∧ m.at_ + mvG ps out m ≤ T then m.many else 0
def exitN (P : Nat) : Int := sm (fun p => if hasI xs p = true then pe.getD p 0 else 0) P
def outN (P T : Nat) : Int := exitN xs pe P + sm (fun k => outA ps xs out (l.getD k Mv.zero) T) l.length
end
section
variable {P T : Nat} {ps : List Psg} {xs : List Int} {out : Int} {pe bl : List Int} {l : List Mv} {m : Mv}
theorem planB_iff : planB ps xs out pe l P = true ↔ (∀ k, k < l.length → mvOk ps xs out (l.getD k Mv.zero) = true ∧ totK l (l.getD k Mv.zero) l.length ≤ (mvP ps (l.getD k Mv.zero)).wide) ∧ ∀ t : Nat, t ≤ 60 → ∀ p, p < P → 0 ≤ thr ps out pe l t p l.length := by
  unfold planB
  rw [Bool.and_eq_true, allN_iff, allN_iff]
  constructor
  · rintro ⟨h1, h2⟩
    refine ⟨fun k hk => ?_, fun t ht p hp => ?_⟩
    · have := h1 k hk
      unfold legB at this
      simpa using this
    · have := h2 t (by omega)
      unfold thrB at this
      exact of_decide_eq_true (allN_iff.1 this p hp)
  · rintro ⟨h1, h2⟩
    refine ⟨fun k hk => ?_, fun t ht => ?_⟩
    · unfold legB
      simpa using h1 k hk
    · unfold thrB
      exact allN_iff.2 fun p hp => decide_eq_true (h2 t (by omega) p hp)
theorem mvOk_iff : mvOk ps xs out m = true ↔ mvIn ps m ∧ 0 ≤ mvG ps out m ∧ hasI xs m.fr = false := by
  unfold mvOk
  simp only [Bool.and_eq_true, decide_eq_true_eq, Bool.not_eq_true']
/-- What a right move is. -/
structure MvF (P : Nat) (ps : List Psg) (out : Int) (m : Mv) (i e : Nat) : Prop where
  i_lt : i < ps.length
  pas : m.pas = (i : Int)
  e01 : e = 0 ∨ e = 1
  fr : m.fr = endI (ps.getD i Psg.zero) e
  to : mvO ps m = endI (ps.getD i Psg.zero) (1 - e)
  g : 1 ≤ mvG ps out m ∧ mvG ps out m ≤ 20
  frP : 0 ≤ m.fr ∧ m.fr < P
  toP : 0 ≤ mvO ps m ∧ mvO ps m < P
theorem mv_facts (V : StV P ps xs) (h1 : 0 ≤ m.pas ∧ m.pas < ps.length) (h2 : 0 ≤ mvG ps out m) : ∃ i e, MvF P ps out m i e := by
  obtain ⟨i, hi⟩ := Int.eq_ofNat_of_zero_le h1.1
  have hil : i < ps.length := by omega
  have hp := psgOk_iff.1 (V.pas i hil)
  have hP : mvP ps m = ps.getD i Psg.zero := by unfold mvP; rw [hi]; rfl
  unfold mvG at h2
  rw [hP] at h2
  have hg : goneI out (ps.getD i Psg.zero) m.fr ≤ 20 ∧ 1 ≤ goneI out (ps.getD i Psg.zero) m.fr := by
    unfold goneI at h2 ⊢
    split
    · rename_i h; rw [if_pos h] at h2; omega
    · rename_i h
      rw [if_neg h] at h2
      split
      · omega
      · rename_i h3
        rw [if_neg h3] at h2
        split
        · rename_i h4; rw [if_pos h4] at h2; omega
        · omega
  have ho : ¬ othr (ps.getD i Psg.zero) m.fr < 0 := fun h => by unfold goneI at h2; rw [if_pos (.inl h)] at h2; omega
  by_cases ha : (ps.getD i Psg.zero).a = m.fr
  · refine ⟨i, 0, hil, hi, .inl rfl, ?_, ?_, ?_, by omega, ?_⟩
    · unfold endI; rw [if_pos rfl]; exact ha.symm
    · unfold mvO othr endI; rw [hP, if_pos ha, if_neg (by decide)]
    · unfold mvG; rw [hP]; exact ⟨hg.2, hg.1⟩
    · unfold mvO othr; rw [hP, if_pos ha]; omega
  · by_cases hb : (ps.getD i Psg.zero).b = m.fr
    · refine ⟨i, 1, hil, hi, .inr rfl, ?_, ?_, ?_, by omega, ?_⟩
      · unfold endI; rw [if_neg (by decide)]; exact hb.symm
      · unfold mvO othr endI; rw [hP, if_neg ha, if_pos hb, if_pos rfl]
      · unfold mvG; rw [hP]; exact ⟨hg.2, hg.1⟩
      · unfold mvO othr; rw [hP, if_neg ha, if_pos hb]; omega
    · exfalso; apply ho; unfold othr; rw [if_neg ha, if_neg hb]; omega
/-- What goes across a barrier. -/
def crossK (ps : List Psg) (out : Int) (bl : List Int) (m : Mv) : Int := if bl.getD m.fr.toNat 0 ≤ m.at_ ∧ m.at_ + mvG ps out m < bl.getD (mvO ps m).toNat 0 then m.many else 0
theorem cross_head (V : StV P ps xs) (hb : barOk P T xs bl = true) (hl : ∀ k, k < l.length → mvOk ps xs out (l.getD k Mv.zero) = true ∧ totK l (l.getD k Mv.zero) l.length ≤ (mvP ps (l.getD k Mv.zero)).wide) :
    sm (fun k => crossK ps out bl (l.getD k Mv.zero)) l.length ≤ headC (barU bl) T xs out ps := by
  obtain ⟨hbl, hbk⟩ := barOk_ok hb
  let kt : Nat → Nat → Nat → Nat → Int := fun k t i e => if ((l.getD k Mv.zero).pas = (i : Int) ∧ (l.getD k Mv.zero).fr = endI (ps.getD i Psg.zero) e) ∧ (l.getD k Mv.zero).at_ = (t : Int) then crossK ps out bl (l.getD k Mv.zero) else 0
  have hc0 : ∀ k, k < l.length → 0 ≤ crossK ps out bl (l.getD k Mv.zero) := fun k hk => by
    have := ((mvOk_iff.1 (hl k hk).1).1).2.2
    unfold crossK; split <;> omega
  have hk0 : ∀ k, k < l.length → ∀ t i e, 0 ≤ kt k t i e := fun k hk t i e => by
    show 0 ≤ ite _ _ _
    split
    · exact hc0 k hk
    · omega
  have h1 : sm (fun k => crossK ps out bl (l.getD k Mv.zero)) l.length ≤ sm (fun k => sm (fun t => sm (fun i => kt k t i 0 + kt k t i 1) ps.length) (T + 1)) l.length := by
    refine sm_le fun k hk => ?_
    by_cases hz : crossK ps out bl (l.getD k Mv.zero) = 0
    · rw [hz]
      exact sm_nonneg fun t _ => sm_nonneg fun i _ => by have := hk0 k hk t i 0; have := hk0 k hk t i 1; omega
    · obtain ⟨⟨hpas, hat, hmany⟩, hg, hx⟩ := mvOk_iff.1 (hl k hk).1
      obtain ⟨i, e, F⟩ := mv_facts V hpas hg
      obtain ⟨t, ht⟩ := Int.eq_ofNat_of_zero_le hat.1
      have htT : t < T + 1 := by
        unfold crossK at hz
        by_cases hc : bl.getD (l.getD k Mv.zero).fr.toNat 0 ≤ (l.getD k Mv.zero).at_ ∧ (l.getD k Mv.zero).at_ + mvG ps out (l.getD k Mv.zero) < bl.getD (mvO ps (l.getD k Mv.zero)).toNat 0
        · have h9 := hbk (mvO ps (l.getD k Mv.zero)).toNat (by have := F.toP; omega)
          have := F.g
          omega
        · rw [if_neg hc] at hz; exact absurd rfl hz
      have hke : kt k t i e = crossK ps out bl (l.getD k Mv.zero) := if_pos ⟨⟨F.pas, F.fr⟩, ht⟩
      have h2 : crossK ps out bl (l.getD k Mv.zero) ≤ kt k t i 0 + kt k t i 1 := by
        have h3 := hk0 k hk t i 0
        have h4 := hk0 k hk t i 1
        rcases F.e01 with rfl | rfl <;> omega
      have h5 := sm_mem (f := fun i => kt k t i 0 + kt k t i 1) (n := ps.length) (p := i) (fun i _ => by have := hk0 k hk t i 0; have := hk0 k hk t i 1; omega) F.i_lt
      have h6 := sm_mem (f := fun t => sm (fun i => kt k t i 0 + kt k t i 1) ps.length) (n := T + 1) (p := t) (fun t _ => sm_nonneg fun i _ => by have := hk0 k hk t i 0; have := hk0 k hk t i 1; omega) htT
      omega
  refine Int.le_trans h1 ?_
  rw [sm_swap]
  unfold headC
  refine sm_le fun t ht => ?_
  rw [sm_swap]
  refine sm_le fun i hi => ?_
  rw [sm_add]
  have key : ∀ e, e = 0 ∨ e = 1 → sm (fun k => kt k t i e) l.length ≤ pC (barU bl) T xs out (ps.getD i Psg.zero) t e := by
    intro e he
    have hpn := pC_nn (T := T) (out := out) (U := barU bl) V hi (t := t) (k := e)
    by_cases hx : ∃ k, k < l.length ∧ kt k t i e ≠ 0
    · obtain ⟨k, hk, hne⟩ := hx
      have hkey : ((l.getD k Mv.zero).pas = (i : Int) ∧ (l.getD k Mv.zero).fr = endI (ps.getD i Psg.zero) e) ∧ (l.getD k Mv.zero).at_ = (t : Int) := by
        refine Classical.byContradiction fun hno => hne ?_
        show ite _ _ _ = _
        rw [if_neg hno]
      have hcr : bl.getD (l.getD k Mv.zero).fr.toNat 0 ≤ (l.getD k Mv.zero).at_ ∧ (l.getD k Mv.zero).at_ + mvG ps out (l.getD k Mv.zero) < bl.getD (mvO ps (l.getD k Mv.zero)).toNat 0 := by
        refine Classical.byContradiction fun hno => hne ?_
        show ite _ _ _ = _
        rw [if_pos hkey]
        unfold crossK
        rw [if_neg hno]
      obtain ⟨⟨hpas, hat, hmany⟩, hg, hxf⟩ := mvOk_iff.1 (hl k hk).1
      obtain ⟨i', e', F⟩ := mv_facts V hpas hg
      have hii : i' = i := by have := F.pas; have := hkey.1.1; omega
      subst hii
      have hee : e' = e := by
        have h7 := F.fr
        have h8 := hkey.1.2
        have hp := psgOk_iff.1 (V.pas i' hi)
        unfold endI at h7 h8
        rcases F.e01 with rfl | rfl <;> rcases he with rfl | rfl
        · rfl
        · exfalso; rw [if_pos rfl] at h7; rw [if_neg (by decide)] at h8; omega
        · exfalso; rw [if_neg (by decide)] at h7; rw [if_pos rfl] at h8; omega
        · rfl
      subst hee
      have hwide : sm (fun k => kt k t i' e') l.length ≤ totK l (l.getD k Mv.zero) l.length := by
        refine sm_le fun q hq => ?_
        have hq1 := ((mvOk_iff.1 (hl q hq).1).1).2.2
        show (ite _ _ _ : Int) ≤ ite _ _ _
        by_cases hs : ((l.getD q Mv.zero).pas = (i' : Int) ∧ (l.getD q Mv.zero).fr = endI (ps.getD i' Psg.zero) e') ∧ (l.getD q Mv.zero).at_ = (t : Int)
        · rw [if_pos hs, if_pos]
          · unfold crossK; split <;> omega
          · unfold sameK
            rw [hkey.1.1, hkey.1.2, hkey.2, decide_eq_true hs.1.1, decide_eq_true hs.1.2, decide_eq_true hs.2]; rfl
        · rw [if_neg hs]; split <;> omega
      have hP : mvP ps (l.getD k Mv.zero) = ps.getD i' Psg.zero := by unfold mvP; rw [F.pas]; rfl
      have h9 := (hl k hk).2
      rw [hP] at h9
      refine Int.le_trans hwide (Int.le_trans h9 (Int.le_of_eq ?_))
      rw [pC_bar V (fun p hp hx => (hbk p (by omega)).2 hx) hi (by omega), if_pos]
      have hG : mvG ps out (l.getD k Mv.zero) = goneI out (ps.getD i' Psg.zero) (endI (ps.getD i' Psg.zero) e') := by unfold mvG; rw [hP, ← F.fr]
      have h7 := hbk (mvO ps (l.getD k Mv.zero)).toNat (by have := F.toP; omega)
      have hg1 := F.g
      rw [← hG, ← F.fr, ← F.to, ← hkey.2]
      exact ⟨⟨⟨by omega, hcr.1⟩, by omega⟩, hcr.2⟩
    · rw [sm_zero (fun k hk => Classical.byContradiction fun hno => hx ⟨k, hk, hno⟩)]
      exact hpn
  have h0 := key 0 (.inl rfl)
  have h1 := key 1 (.inr rfl)
  omega
/-- No right plan has more people out than a barrier lets through. -/
theorem plan_bar (V : StV P ps xs) (hT : T ≤ 60) (hl : planB ps xs out pe l P = true) (hb : barOk P T xs bl = true) : outN ps xs out pe l P T ≤ bndV P T ps xs out pe bl := by
  obtain ⟨hk, ht⟩ := planB_iff.1 hl
  obtain ⟨hbl, hbk⟩ := barOk_ok hb
  have hcross := cross_head (out := out) V hb hk
  let A : Nat → Nat → Int := fun p k => if (l.getD k Mv.zero).at_ + mvG ps out (l.getD k Mv.zero) < bl.getD p 0 ∧ mvO ps (l.getD k Mv.zero) = (p : Int) then (l.getD k Mv.zero).many else 0
  let D : Nat → Nat → Int := fun p k => if (l.getD k Mv.zero).at_ < bl.getD p 0 ∧ (l.getD k Mv.zero).fr = (p : Int) then (l.getD k Mv.zero).many else 0
  let w : Nat → Int := fun p => (if barU bl p 0 = false then pe.getD p 0 else 0) + sm (fun k => A p k - D p k) l.length
  have hkf : ∀ k, k < l.length → (0 ≤ (l.getD k Mv.zero).at_ ∧ 1 ≤ (l.getD k Mv.zero).many ∧ 1 ≤ mvG ps out (l.getD k Mv.zero)) ∧ (0 ≤ (l.getD k Mv.zero).fr ∧ (l.getD k Mv.zero).fr < P) ∧ (0 ≤ mvO ps (l.getD k Mv.zero) ∧ mvO ps (l.getD k Mv.zero) < P) ∧ hasI xs (l.getD k Mv.zero).fr = false := fun k hq => by
    obtain ⟨⟨hpas, hat, hmany⟩, hg, hx⟩ := mvOk_iff.1 (hk k hq).1
    obtain ⟨i, e, F⟩ := mv_facts V hpas hg
    exact ⟨⟨hat.1, hmany.1, F.g.1⟩, F.frP, F.toP, hx⟩
  have hw : ∀ p, p < P → w p = if 0 < bl.getD p 0 then thr ps out pe l (bl.getD p 0 - 1) p l.length else 0 := fun p hp => by
    show (if barU bl p 0 = false then pe.getD p 0 else 0) + sm (fun k => A p k - D p k) l.length = _
    by_cases h0 : 0 < bl.getD p 0
    · rw [if_pos h0, if_pos (show barU bl p 0 = false from decide_eq_false (by omega))]
      unfold thr
      congr 1
      refine sm_congr fun k _ => ?_
      show (ite _ _ _ : Int) - ite _ _ _ = ite _ _ _ - ite _ _ _
      have e1 : ∀ z : Int, z < bl.getD p 0 ↔ z ≤ bl.getD p 0 - 1 := fun z => by omega
      simp only [e1]
    · rw [if_neg h0, if_neg (show ¬ barU bl p 0 = false from fun h => by have := of_decide_eq_false h; omega), sm_zero]
      · rfl
      · intro k hq
        have h1 := hkf k hq
        show (ite _ _ _ : Int) - ite _ _ _ = 0
        rw [if_neg (fun h => by have := h.1; omega), if_neg (fun h => by have := h.1; omega)]
        rfl
  have hw0 : ∀ p, p < P → 0 ≤ w p := fun p hp => by
    rw [hw p hp]
    split
    · rename_i h0
      have h1 := (hbk p (by omega)).1
      have h2 := ht (bl.getD p 0 - 1).toNat (by omega) p hp
      rw [Int.toNat_of_nonneg (by omega)] at h2
      exact h2
    · exact Int.le_refl 0
  -- all together
  have hsum : sm w P = begC (barU bl) pe P + sm (fun k => sm (fun p => A p k) P - sm (fun p => D p k) P) l.length := by
    show sm (fun p => (if barU bl p 0 = false then pe.getD p 0 else 0) + sm (fun k => A p k - D p k) l.length) P = _
    rw [sm_add, sm_swap]
    unfold begC
    congr 1
    refine sm_congr fun k _ => ?_
    have : sm (fun p => A p k - D p k) P + sm (fun p => D p k) P = sm (fun p => A p k) P := by
      rw [← sm_add]
      exact sm_congr fun p _ => by omega
    omega
  have hA : ∀ k, k < l.length → sm (fun p => A p k) P = if (l.getD k Mv.zero).at_ + mvG ps out (l.getD k Mv.zero) < bl.getD (mvO ps (l.getD k Mv.zero)).toNat 0 then (l.getD k Mv.zero).many else 0 := fun k hq => by
    have h1 := (hkf k hq).2.2.1
    rw [sm_single (p := (mvO ps (l.getD k Mv.zero)).toNat) (by omega) (fun p _ hne => if_neg fun h => by have := h.2; omega)]
    show (ite _ _ _ : Int) = _
    by_cases hc : (l.getD k Mv.zero).at_ + mvG ps out (l.getD k Mv.zero) < bl.getD (mvO ps (l.getD k Mv.zero)).toNat 0
    · rw [if_pos hc, if_pos ⟨hc, by omega⟩]
    · rw [if_neg hc, if_neg (fun h => hc h.1)]
  have hD : ∀ k, k < l.length → sm (fun p => D p k) P = if (l.getD k Mv.zero).at_ < bl.getD (l.getD k Mv.zero).fr.toNat 0 then (l.getD k Mv.zero).many else 0 := fun k hq => by
    have h1 := (hkf k hq).2.1
    rw [sm_single (p := (l.getD k Mv.zero).fr.toNat) (by omega) (fun p _ hne => if_neg fun h => by have := h.2; omega)]
    show (ite _ _ _ : Int) = _
    by_cases hc : (l.getD k Mv.zero).at_ < bl.getD (l.getD k Mv.zero).fr.toNat 0
    · rw [if_pos hc, if_pos ⟨hc, by omega⟩]
    · rw [if_neg hc, if_neg (fun h => hc h.1)]
  have hle : sm (fun k => sm (fun p => A p k) P - sm (fun p => D p k) P) l.length ≤ sm (fun k => crossK ps out bl (l.getD k Mv.zero)) l.length := by
    refine sm_le fun k hq => ?_
    have h1 := (hkf k hq).1
    rw [hA k hq, hD k hq]
    unfold crossK
    by_cases h2 : (l.getD k Mv.zero).at_ + mvG ps out (l.getD k Mv.zero) < bl.getD (mvO ps (l.getD k Mv.zero)).toNat 0
    · rw [if_pos h2]
      by_cases h3 : (l.getD k Mv.zero).at_ < bl.getD (l.getD k Mv.zero).fr.toNat 0
      · rw [if_pos h3, if_neg (fun h => by have := h.1; omega)]; omega
      · rw [if_neg h3, if_pos ⟨by omega, h2⟩]; omega
    · rw [if_neg h2, if_neg (c := bl.getD (l.getD k Mv.zero).fr.toNat 0 ≤ (l.getD k Mv.zero).at_ ∧ _) (fun h => h2 h.2)]
      split <;> omega
  have hout : outN ps xs out pe l P T ≤ sm w P := by
    let B : Nat → Nat → Int := fun p k => if hasI xs p = true ∧ ((l.getD k Mv.zero).at_ + mvG ps out (l.getD k Mv.zero) ≤ T ∧ mvO ps (l.getD k Mv.zero) = (p : Int)) then (l.getD k Mv.zero).many else 0
    have e1 : outN ps xs out pe l P T = sm (fun p => (if hasI xs p = true then pe.getD p 0 else 0) + sm (fun k => B p k) l.length) P := by
      rw [sm_add, sm_swap]
      unfold outN exitN
      congr 1
      refine sm_congr fun k hq => ?_
      have h1 := (hkf k hq).2.2.1
      rw [sm_single (p := (mvO ps (l.getD k Mv.zero)).toNat) (by omega) (fun p _ hne => if_neg fun h => by have := h.2.2; omega)]
      unfold outA
      show (ite _ _ _ : Int) = ite _ _ _
      rw [Int.toNat_of_nonneg h1.1]
      by_cases hc : hasI xs (mvO ps (l.getD k Mv.zero)) = true ∧ (l.getD k Mv.zero).at_ + mvG ps out (l.getD k Mv.zero) ≤ T
      · rw [if_pos hc, if_pos ⟨hc.1, hc.2, rfl⟩]
      · rw [if_neg hc, if_neg (fun h => hc ⟨h.1, h.2.1⟩)]
    rw [e1]
    refine sm_le fun p hp => ?_
    by_cases hx : hasI xs p = true
    · have h1 := hbk p (by omega)
      have h2 := h1.2 hx
      show _ ≤ (if barU bl p 0 = false then pe.getD p 0 else 0) + sm (fun k => A p k - D p k) l.length
      rw [if_pos hx, if_pos (show barU bl p 0 = false from decide_eq_false (by omega))]
      have h3 : sm (fun k => B p k) l.length ≤ sm (fun k => A p k - D p k) l.length := by
        refine sm_le fun k hq => ?_
        have h4 := (hkf k hq).2.2.2
        show (ite _ _ _ : Int) ≤ ite _ _ _ - ite _ _ _
        rw [if_neg (c := (l.getD k Mv.zero).at_ < bl.getD p 0 ∧ (l.getD k Mv.zero).fr = (p : Int)) (fun h => by rw [h.2, hx] at h4; cases h4)]
        have h5 := (hkf k hq).1
        by_cases hc : hasI xs p = true ∧ ((l.getD k Mv.zero).at_ + mvG ps out (l.getD k Mv.zero) ≤ T ∧ mvO ps (l.getD k Mv.zero) = (p : Int))
        · rw [if_pos hc, if_pos ⟨by omega, hc.2.2⟩]; omega
        · rw [if_neg hc]; split <;> omega
      omega
    · have h1 := hw0 p hp
      rw [if_neg hx, sm_zero (fun k _ => if_neg fun h => hx h.1)]
      exact h1
  unfold bndV
  omega
/-- No right plan has more people out than can be. -/
theorem plan_le (V : StV P ps xs) (ho : 0 ≤ out) (hpe : PeOk pe) (hT : T ≤ 60) (hl : planB ps xs out pe l P = true) : outN ps xs out pe l P T ≤ mfv P T pe xs (hds out xs ps) := by
  obtain ⟨h1, h2⟩ := cut_bar (T := T) V ho hpe
  have := plan_bar V hT hl h1
  omega
end
end Go.Proofs.Ytopmadlgolnmfaa
