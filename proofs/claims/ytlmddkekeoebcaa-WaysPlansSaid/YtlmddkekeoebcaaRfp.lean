/- Chapter 8: along the way that was found; an 'xor' with one. -/
import Derived.Test.YtlmddkekeoebcaaRfc
import Derived.Test.YtlmddkekeoebcaaE1
namespace Go.Proofs.Ytlmddkekeoebcaa
set_option linter.unusedVariables false
set_option linter.unusedSimpArgs false
open Go.RowKit

theorem xor_one (m : Nat) : m ^^^ 1 = tw m := by
  apply Nat.eq_of_testBit_eq
  intro i
  rw [Nat.testBit_xor]
  cases i with
  | zero =>
    rw [Nat.testBit_zero, Nat.testBit_zero, Nat.testBit_zero]
    unfold tw
    by_cases h : m % 2 = 0
    · rw [if_pos h, decide_eq_false (p := m % 2 = 1) (by omega), decide_eq_true (p := (m + 1) % 2 = 1) (by omega)]; rfl
    · rw [if_neg h, decide_eq_true (p := m % 2 = 1) (by omega), decide_eq_false (p := (m - 1) % 2 = 1) (by omega)]; rfl
  | succ i =>
    rw [Nat.testBit_succ, Nat.testBit_succ, Nat.testBit_succ, show 1 / 2 = 0 from rfl, Nat.zero_testBit, Bool.xor_false]
    have e : tw m / 2 = m / 2 := by unfold tw; split <;> omega
    rw [e]
theorem bit_xor {m : Nat} (hm : m < 1000000000) : IntKind.i64.wrap ((BitVec.ofInt 64 (m : Int) ^^^ BitVec.ofInt 64 1).toNat : Int) = ((tw m : Nat) : Int) := by
  have e : ((BitVec.ofInt 64 (m : Int) ^^^ BitVec.ofInt 64 1).toNat) = tw m := by
    rw [BitVec.toNat_xor, show (BitVec.ofInt 64 1).toNat = 1 from rfl, BitVec.ofInt_natCast, BitVec.toNat_ofNat, Nat.mod_eq_of_lt (by omega), xor_one]
  rw [e]
  refine i64ok.eq ⟨by omega, ?_⟩
  unfold tw; split <;> omega
theorem does_xor1 {P : Program} {L : List (Nat × Value)} {w : World} {d : Option Nat} {ty : TypeId} {pos : String} {af : Array Edge} {g : Option (Nat × Bool)} {x y : Operand} {xt yt : TypeId} {m : Nat} (hx : ev L x = some (.int .i64 (m : Int))) (hy : ev L y = some (.int .i64 1)) (hm : m < 1000000000) :
    Does P L ⟨d, .binOp .xor xt x y yt, ty, pos, af, g⟩ w (.int .i64 ((tw m : Nat) : Int)) := fun ρ hρ => by
  have e : Op.intBits .xor .i64 (m : Int) 1 = pure (.int .i64 ((tw m : Nat) : Int)) := congrArg (fun z => (pure (Value.int .i64 z) : Sem Value)) (bit_xor hm)
  simp [execOp, hρ _ _ hx, hρ _ _ hy, eqGuard, binOp, e]

section
variable {N : Net} {E : List Eg} {r r2 : Nat → Int} {b x : Nat} {L : Nat → Int} {by_ : Nat → Nat} {m B : Int}
theorem pth_at (K : Lk N E) (R : Rch N E r b L by_) (h0 : L b = 0) (hx : x < N.k) : ∀ i : Nat, (i : Int) ≤ L x → pth E by_ x i < N.k ∧ L (pth E by_ x i) = L x - i := by
  intro i
  induction i with
  | zero => intro h; exact ⟨hx, by show L x = L x - (0 : Nat); omega⟩
  | succ i ih =>
    intro h
    obtain ⟨h1, h2⟩ := ih (by omega)
    obtain ⟨j, g1, g2, g3, g4, g5, g6, _⟩ := R.prv K h1 (by omega) (fun e => by rw [e, h0] at h2; omega)
    exact ⟨g1, by show L (prv E by_ (pth E by_ x i)) = _; omega⟩
theorem pth_ne (K : Lk N E) (R : Rch N E r b L by_) (h0 : L b = 0) (hx : x < N.k) {i : Nat} (hi : (i : Int) < L x) : pth E by_ x i ≠ b := fun e => by
  have := (pth_at K R h0 hx i (by omega)).2
  rw [e, h0] at this
  omega
theorem pth_end (K : Lk N E) (R : Rch N E r b L by_) (h0 : L b = 0) (hx : x < N.k) {i : Nat} (hi : (i : Int) = L x) : pth E by_ x i = b := by
  obtain ⟨h1, h2⟩ := pth_at K R h0 hx i (by omega)
  refine Classical.byContradiction fun hne => ?_
  obtain ⟨j, g1, g2, g3, g4, g5, g6, _⟩ := R.prv K h1 (by omega) hne
  omega
/-- The edge at a place of the way. -/
theorem pth_edge (K : Lk N E) (R : Rch N E r b L by_) (h0 : L b = 0) (hx : x < N.k) {i : Nat} (hi : (i : Int) < L x) :
    ∃ j, pth E by_ x (i + 1) < N.k ∧ j < N.n (pth E by_ x (i + 1)) ∧ 0 < r (by_ (pth E by_ x i)) ∧ N.to (pth E by_ x (i + 1)) j = pth E by_ x i ∧ by_ (pth E by_ x i) = (ixs E (pth E by_ x (i + 1))).getD j 0 ∧ by_ (pth E by_ x i) < E.length ∧ (E.getD (by_ (pth E by_ x i)) Eg.zero).t = pth E by_ x i := by
  obtain ⟨h1, h2⟩ := pth_at K R h0 hx i (by omega)
  obtain ⟨j, g1, g2, g3, g4, g5, g6, g7, g8, g9⟩ := R.prv K h1 (by omega) (pth_ne K R h0 hx hi)
  exact ⟨j, g1, g2, g4, g5, g7, g8, g9⟩
theorem push_pth (K : Lk N E) (W : N.Wf) (R : Rch N E r b L by_) (h0 : L b = 0) (hx : x < N.k) {i : Nat} (hi : (i : Int) < L x) {r0 : RM} (hF : Fl N r0 (rmE E r2) (pth E by_ x i) x m) (hm0 : 0 ≤ m) (hm : m ≤ r2 (by_ (pth E by_ x i))) :
    Fl N r0 (rmE E (pushE r2 (by_ (pth E by_ x i)) m)) (pth E by_ x (i + 1)) x m := by
  obtain ⟨j, g1, g2, g3, g4, g5, g6, g7⟩ := pth_edge K R h0 hx hi
  have h1 : Fl N r0 (along N (rmE E r2) (pth E by_ x (i + 1)) j m) (pth E by_ x (i + 1)) x m := Fl.step W g1 g2 (by rw [g4]; exact hF) hm0 (by show m ≤ r2 _; rw [← g5]; exact hm)
  refine h1.congr W ?_
  rw [g5]
  exact K.push W g1 g2
theorem push_keep (K : Lk N E) (R : Rch N E r b L by_) (h0 : L b = 0) (hx : x < N.k) {i : Nat} (hi : (i : Int) < L x) (hm0 : 0 ≤ m) (hn : 0 ≤ r2 (tw (by_ (pth E by_ x i)))) (h : ∀ q : Nat, i ≤ q → (q : Int) < L x → m ≤ r2 (by_ (pth E by_ x q))) :
    ∀ q : Nat, i + 1 ≤ q → (q : Int) < L x → m ≤ pushE r2 (by_ (pth E by_ x i)) m (by_ (pth E by_ x q)) := fun q hq hqL => by
  obtain ⟨_, _, _, _, _, _, _, t1⟩ := pth_edge K R h0 hx hi
  obtain ⟨_, _, _, _, _, _, _, t2⟩ := pth_edge K R h0 hx hqL
  have hne : by_ (pth E by_ x q) ≠ by_ (pth E by_ x i) := fun e => by
    have e2 : pth E by_ x q = pth E by_ x i := by rw [← t1, ← t2, e]
    have h1 := (pth_at K R h0 hx i (by omega)).2
    have h2 := (pth_at K R h0 hx q (by omega)).2
    rw [e2] at h2
    omega
  have h3 := h q (by omega) hqL
  by_cases e : by_ (pth E by_ x q) = tw (by_ (pth E by_ x i))
  · rw [e, pushE_tw]; omega
  · rw [pushE_ne hne e]; exact h3
/-- What can be at an edge of the way, and at that which leads back. -/
theorem pth_rng (K : Lk N E) (W : N.Wf) (R : Rch N E r b L by_) (h0 : L b = 0) (hx : x < N.k) (O : Ok N (rmE E r2) B) {i : Nat} (hi : (i : Int) < L x) :
    (0 ≤ r2 (by_ (pth E by_ x i)) ∧ r2 (by_ (pth E by_ x i)) ≤ B) ∧ (0 ≤ r2 (tw (by_ (pth E by_ x i))) ∧ r2 (tw (by_ (pth E by_ x i))) ≤ B) ∧ tw (by_ (pth E by_ x i)) < E.length := by
  obtain ⟨j, g1, g2, g3, g4, g5, g6, g7⟩ := pth_edge K R h0 hx hi
  have a1 := O.nn _ g1 _ g2
  have a2 := O.le W g1 g2
  have a3 := O.nn _ (W.to_lt _ g1 _ g2) _ (W.bk_lt _ g1 _ g2)
  have a4 := O.le W (W.to_lt _ g1 _ g2) (W.bk_lt _ g1 _ g2)
  unfold rmE at a1 a2 a3 a4
  rw [K.tw _ g1 _ g2, ← g5] at a3 a4
  rw [← g5] at a1 a2
  exact ⟨⟨a1, a2⟩, ⟨a3, a4⟩, tw_lt g6 K.evn⟩
end
theorem egc_upd {E : List Eg} {r : Nat → Int} {e : Nat} {v : Int} : ∀ k j, j < 5 → cput (egc E r) e 2 (.int .i64 v) k j = egc E (upd r e v) k j := by
  intro k j hj
  unfold cput
  by_cases h : k = e
  · subst h
    match j, hj with
    | 0, _ => rw [if_neg (by omega)]; rfl
    | 1, _ => rw [if_neg (by omega)]; rfl
    | 2, _ => rw [if_pos ⟨rfl, rfl⟩]; show _ = Value.int .i64 (upd r k v k); rw [upd_same]
    | 3, _ => rw [if_neg (by omega)]; rfl
    | 4, _ => rw [if_neg (by omega)]; rfl
  · rw [if_neg (fun h2 => h h2.1)]
    match j, hj with
    | 0, _ => rfl
    | 1, _ => rfl
    | 2, _ => unfold egc; rw [upd_ne _ _ h]
    | 3, _ => rfl
    | 4, _ => rfl
section
variable {P T : Nat} {pe xs : List Int} {out : Int} {ps : List Psg}
theorem sm_bd {f : Nat → Int} {c : Int} : ∀ {n : Nat}, (∀ i, i < n → f i ≤ c) → sm f n ≤ c * n := by
  intro n
  induction n with
  | zero => intro _; simp [sm]
  | succ n ih =>
    intro h
    have h1 := ih fun i hi => h i (by omega)
    have h2 := h n (by omega)
    rw [sm, Int.natCast_succ, Int.mul_add]
    omega
theorem beg_R (V : StV P ps xs) (hpe : ∀ k, k < pe.length → 0 ≤ pe.getD k 0 ∧ pe.getD k 0 ≤ 1000) : resid (layR P T pe xs out ps) (roomR P T pe xs out ps) (fun v => decide (v = P * (T + 1))) ≤ 10000 := by
  have O := lay_R (T := T) (out := out) V hpe
  have hpe' : ∀ p, 0 ≤ pe.getD p 0 ∧ pe.getD p 0 ≤ 1000 := fun p => by
    by_cases h : p < pe.length
    · exact hpe p h
    · rw [List.getD_eq_getElem?_getD, List.getElem?_eq_none (by omega)]; simp
  have hw : ∀ i, i < ps.length → 0 ≤ (ps.getD i Psg.zero).wide := fun i hi => by have := psgOk_iff.1 (V.pas i hi); omega
  have hU : ∀ p, p < P → ∀ t, t ≤ T → onR T (fun v => decide (v = P * (T + 1))) p t = false := fun p hp t ht => decide_eq_false (by have := ndR_lt (T := T) hp ht; omega)
  have hT : Tight (onR T (fun v => decide (v = P * (T + 1)))) P T xs := fun p hp => ⟨fun _ t ht => hU p hp t ht, fun _ t ht h1 => by rw [hU p hp t (by omega)] at h1; cases h1⟩
  rw [O.cap, (cap_R (S := fun v => decide (v = P * (T + 1))) (out := out) (fun p _ => (hpe' p).1) hw (by simp) (by simp)).1 hT]
  have hz : headC (onR T (fun v => decide (v = P * (T + 1)))) T xs out ps = headC (fun _ _ => false) T xs out ps := headC_congr V hU
  have hz2 : headC (fun _ _ => false) T xs out ps = 0 := sm_zero fun t _ => sm_zero fun i _ => by
    have key : ∀ k, pC (fun _ _ => false) T xs out (ps.getD i Psg.zero) t k = 0 := fun k => by
      unfold pC hC
      split
      · exact if_neg (fun h => by cases h.2.1)
      · rfl
    rw [key 0, key 1]; rfl
  rw [hz, hz2]
  have hb : begC (onR T (fun v => decide (v = P * (T + 1)))) pe P ≤ 1000 * P := sm_bd fun p _ => by have := hpe' p; split <;> omega
  have := V.size
  omega
end
/-- How many joins there are. -/
theorem jrTicks_len {P T : Nat} {xs : List Int} {p : Nat} : ∀ n, (jrTicks P T xs p n).length ≤ n := by
  intro n
  induction n with
  | zero => exact Nat.le_refl 0
  | succ n ih =>
    rw [jrTicks, List.length_append]
    have : (jrTick P T xs p n).length ≤ 1 := by
      unfold jrTick
      split
      · simp
      · split <;> simp
    omega
theorem jrPlaces_len {P T : Nat} {pe xs : List Int} : ∀ n, (jrPlaces P T pe xs n).length ≤ n * (T + 2) := by
  intro n
  induction n with
  | zero => simp [jrPlaces]
  | succ n ih =>
    have h1 := jrTicks_len (P := P) (T := T) (xs := xs) (p := n) (T + 1)
    rw [jrPlaces, List.length_append, List.length_cons, Nat.add_mul]
    omega
theorem jrOne_len {T : Nat} {xs : List Int} {out : Int} {p : Psg} {i t k : Nat} : (jrOne T xs out p i t k).length ≤ 1 := by unfold jrOne; split <;> simp
theorem jrPsgs_len {T : Nat} {xs : List Int} {out : Int} {ps : List Psg} {t : Nat} : ∀ n, (jrPsgs T xs out ps t n).length ≤ 2 * n := by
  intro n
  induction n with
  | zero => exact Nat.le_refl 0
  | succ n ih =>
    rw [jrPsgs, List.length_append, List.length_append]
    have h1 := jrOne_len (T := T) (xs := xs) (out := out) (p := ps.getD n Psg.zero) (i := n) (t := t) (k := 0)
    have h2 := jrOne_len (T := T) (xs := xs) (out := out) (p := ps.getD n Psg.zero) (i := n) (t := t) (k := 1)
    omega
theorem jrHeads_len {T : Nat} {xs : List Int} {out : Int} {ps : List Psg} (h : ps.length ≤ 24) : ∀ n, (jrHeads T xs out ps n).length ≤ 48 * n := by
  intro n
  induction n with
  | zero => exact Nat.le_refl 0
  | succ n ih =>
    rw [jrHeads, List.length_append]
    have h1 := jrPsgs_len (T := T) (xs := xs) (out := out) (ps := ps) (t := n) ps.length
    omega
theorem ixs_le {J : List Jn} {i : Nat} : (ixs (egs J) i).length ≤ 2 * J.length := by
  unfold ixs
  refine Nat.le_trans (List.length_filter_le ..) ?_
  rw [List.length_range, egs_len]
  exact Nat.le_refl _
end Go.Proofs.Ytlmddkekeoebcaa
