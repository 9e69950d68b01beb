/- Rows of different lengths: a family of owned slices as one part; a row is taken out, worked on, and put back. -/
import Derived.Test.YtlmddkekeoebcaaMet
namespace Go.Proofs.Ytlmddkekeoebcaa
set_option linter.unusedVariables false
set_option linter.unusedSimpArgs false
open Go.RowKit

section
variable {w w0 : World} {F0 : Nat → Prop} {R : List Mem} {m m1 m2 : Mem}

/-- One part as two. -/
theorem St.split (S : St w0 F0 R w) {i : Nat} (hi : R[i]? = some m) (h1 : m1.holds w) (h2 : m2.holds w) (f1 : ∀ k, m1.fp k → m.fp k) (f2 : ∀ k, m2.fp k → m.fp k) (hd : ∀ k, m1.fp k → ¬ m2.fp k) : St w0 F0 (m1 :: R.set i m2) w := by
  have hmR : m ∈ R := List.mem_of_getElem? hi
  refine ⟨S.os, S.tape, S.out, S.size, S.ro, ?_, ?_, ?_⟩
  · intro x hx
    rcases List.mem_cons.1 hx with rfl | hx
    · exact h1
    · obtain ⟨j, hj⟩ := List.getElem?_of_mem hx
      rcases get_set hi hj with ⟨_, rfl⟩ | ⟨_, hxj⟩
      · exact h2
      · exact S.res x (List.mem_of_getElem? hxj)
  · intro x hx k hk
    rcases List.mem_cons.1 hx with rfl | hx
    · exact S.inn m hmR k (f1 k hk)
    · obtain ⟨j, hj⟩ := List.getElem?_of_mem hx
      rcases get_set hi hj with ⟨_, rfl⟩ | ⟨_, hxj⟩
      · exact S.inn m hmR k (f2 k hk)
      · exact S.inn x (List.mem_of_getElem? hxj) k hk
  · have key : ∀ (j : Nat) (b : Mem), (R.set i m2)[j]? = some b → ∀ k, m1.fp k → ¬ b.fp k := by
      intro j b hb k hk hk'
      rcases get_set hi hb with ⟨_, rfl⟩ | ⟨hji, hbj⟩
      · exact hd k hk hk'
      · exact S.disj i j m b hi hbj (fun e => hji e.symm) k (f1 k hk) hk'
    intro p q a b hp hq hpq k hk hk'
    cases p with
    | zero =>
      cases q with
      | zero => exact hpq rfl
      | succ q => simp at hp hq; subst hp; exact key q b hq k hk hk'
    | succ p =>
      cases q with
      | zero => simp at hp hq; subst hq; exact key p a hp k hk' hk
      | succ q =>
        simp at hp hq
        rcases get_set hi hp with ⟨ep, rfl⟩ | ⟨hpi, hap⟩ <;> rcases get_set hi hq with ⟨eq, rfl⟩ | ⟨hqi, hbq⟩
        · omega
        · exact S.disj i q m b hi hbq (fun e => hqi e.symm) k (f2 k hk) hk'
        · exact S.disj p i a m hap hi hpi k hk (f2 k hk')
        · exact S.disj p q a b hap hbq (by omega) k hk hk'

/-- Two parts as one. -/
theorem St.merge (S : St w0 F0 (m1 :: R) w) {i : Nat} (hi : R[i]? = some m2) (h : m.holds w) (f : ∀ k, m.fp k → m1.fp k ∨ m2.fp k) : St w0 F0 (R.set i m) w := by
  have h2R : m2 ∈ m1 :: R := List.mem_cons_of_mem _ (List.mem_of_getElem? hi)
  refine ⟨S.os, S.tape, S.out, S.size, S.ro, ?_, ?_, ?_⟩
  · intro x hx
    obtain ⟨j, hj⟩ := List.getElem?_of_mem hx
    rcases get_set hi hj with ⟨_, rfl⟩ | ⟨_, hxj⟩
    · exact h
    · exact S.res x (List.mem_cons_of_mem _ (List.mem_of_getElem? hxj))
  · intro x hx k hk
    obtain ⟨j, hj⟩ := List.getElem?_of_mem hx
    rcases get_set hi hj with ⟨_, rfl⟩ | ⟨_, hxj⟩
    · rcases f k hk with h | h
      · exact S.inn m1 (List.mem_cons_self ..) k h
      · exact S.inn m2 h2R k h
    · exact S.inn x (List.mem_cons_of_mem _ (List.mem_of_getElem? hxj)) k hk
  · have key : ∀ (j : Nat) (b : Mem), j ≠ i → R[j]? = some b → ∀ k, m.fp k → ¬ b.fp k := by
      intro j b hj hb k hk hk'
      rcases f k hk with h | h
      · exact S.disj 0 (j + 1) m1 b rfl (by simpa using hb) (by omega) k h hk'
      · exact S.disj (i + 1) (j + 1) m2 b (by simpa using hi) (by simpa using hb) (by omega) k h hk'
    intro p q a b hp hq hpq k hk hk'
    rcases get_set hi hp with ⟨ep, rfl⟩ | ⟨hpi, hap⟩ <;> rcases get_set hi hq with ⟨eq, rfl⟩ | ⟨hqi, hbq⟩
    · omega
    · exact key q b hqi hbq k hk hk'
    · exact key p a hpi hap k hk' hk
    · exact S.disj (p + 1) (q + 1) a b (by simpa using hap) (by simpa using hbq) (by omega) k hk hk'
end

def ragM (e sz : Nat) (D : Nat → Prop) (A : Nat → Option Addr) (n c : Nat → Nat) (cell : Nat → Nat → Nat → Value) : Mem where
  fp := fun k => ∃ i, D i ∧ (ownM e sz (A i) (n i) (c i) (cell i)).fp k
  holds := fun w => (∀ i, D i → (ownM e sz (A i) (n i) (c i) (cell i)).holds w) ∧ ∀ i j, D i → D j → i ≠ j → ∀ k, (ownM e sz (A i) (n i) (c i) (cell i)).fp k → ¬ (ownM e sz (A j) (n j) (c j) (cell j)).fp k
  stable := fun w w' h ⟨h1, h2⟩ => ⟨fun i hi => (ownM e sz (A i) (n i) (c i) (cell i)).stable w w' (fun k hk => h k ⟨i, hi, hk⟩) (h1 i hi), h2⟩

def upd {α : Type} (f : Nat → α) (p : Nat) (v : α) : Nat → α := fun i => if i = p then v else f i
theorem upd_same {α : Type} (f : Nat → α) (p : Nat) (v : α) : upd f p v p = v := if_pos rfl
theorem upd_ne {α : Type} (f : Nat → α) {p i : Nat} (v : α) (h : i ≠ p) : upd f p v i = f i := if_neg h

section
variable {w w0 : World} {F0 : Nat → Prop} {R : List Mem} {e sz i p : Nat} {D : Nat → Prop} {A : Nat → Option Addr} {n c : Nat → Nat} {cell : Nat → Nat → Nat → Value}

theorem ragM.row (S : St w0 F0 R w) (hi : R[i]? = some (ragM e sz D A n c cell)) (hp : D p) : (ownM e sz (A p) (n p) (c p) (cell p)).holds w := (S.holds hi).1 p hp

theorem ragM.pull (S : St w0 F0 R w) (hi : R[i]? = some (ragM e sz D A n c cell)) (hp : D p) :
    St w0 F0 (ownM e sz (A p) (n p) (c p) (cell p) :: R.set i (ragM e sz (fun q => D q ∧ q ≠ p) A n c cell)) w := by
  obtain ⟨h1, h2⟩ := S.holds hi
  refine S.split hi (h1 p hp) ⟨fun q hq => h1 q hq.1, fun q r hq hr => h2 q r hq.1 hr.1⟩ (fun k hk => ⟨p, hp, hk⟩) ?_ ?_
  · rintro k ⟨q, hq, hk⟩; exact ⟨q, hq.1, hk⟩
  · rintro k hk ⟨q, hq, hk'⟩; exact h2 p q hp hq.1 (fun e => hq.2 e.symm) k hk hk'

theorem ragM.put {A' : Option Addr} {n' c' : Nat} {cell' : Nat → Nat → Value} (S : St w0 F0 (ownM e sz A' n' c' cell' :: R) w) (hi : R[i]? = some (ragM e sz (fun q => D q ∧ q ≠ p) A n c cell)) (hp : D p) :
    St w0 F0 (R.set i (ragM e sz D (upd A p A') (upd n p n') (upd c p c') (upd cell p cell'))) w := by
  have h0 : (ownM e sz A' n' c' cell').holds w := S.holds (i := 0) rfl
  obtain ⟨h1, h2⟩ := S.holds (i := i + 1) (m := ragM e sz (fun q => D q ∧ q ≠ p) A n c cell) (by simpa using hi)
  have hd := S.disj 0 (i + 1) _ (ragM e sz (fun q => D q ∧ q ≠ p) A n c cell) rfl (by simpa using hi) (by omega)
  have hrow : ∀ q, q ≠ p → ownM e sz (upd A p A' q) (upd n p n' q) (upd c p c' q) (upd cell p cell' q) = ownM e sz (A q) (n q) (c q) (cell q) := fun q hq => by rw [upd_ne _ _ hq, upd_ne _ _ hq, upd_ne _ _ hq, upd_ne _ _ hq]
  have hrp : ownM e sz (upd A p A' p) (upd n p n' p) (upd c p c' p) (upd cell p cell' p) = ownM e sz A' n' c' cell' := by rw [upd_same, upd_same, upd_same, upd_same]
  refine S.merge hi ⟨fun q hq => ?_, fun q r hq hr hqr k hk hk' => ?_⟩ ?_
  · by_cases h : q = p
    · subst h; rw [hrp]; exact h0
    · rw [hrow q h]; exact h1 q ⟨hq, h⟩
  · by_cases h : q = p <;> by_cases h' : r = p
    · omega
    · subst h; rw [hrp] at hk; rw [hrow r h'] at hk'; exact hd k hk ⟨r, ⟨hr, h'⟩, hk'⟩
    · subst h'; rw [hrp] at hk'; rw [hrow q h] at hk; exact hd k hk' ⟨q, ⟨hq, h⟩, hk⟩
    · rw [hrow q h] at hk; rw [hrow r h'] at hk'; exact h2 q r ⟨hq, h⟩ ⟨hr, h'⟩ hqr k hk hk'
  · rintro k ⟨q, hq, hk⟩
    by_cases h : q = p
    · subst h; rw [hrp] at hk; exact .inl hk
    · rw [hrow q h] at hk; exact .inr ⟨q, ⟨hq, h⟩, hk⟩

theorem ragM.zero (S : St w0 F0 R w) (e sz : Nat) (D : Nat → Prop) (cell : Nat → Nat → Nat → Value) : St w0 F0 (ragM e sz D (fun _ => none) (fun _ => 0) (fun _ => 0) cell :: R) w :=
  S.new (Keeps.refl _ _) ⟨fun q _ => .inl ⟨rfl, rfl, rfl⟩, fun q r _ _ _ k ⟨_, h, _⟩ => by cases h⟩ fun k ⟨q, _, _, h, _⟩ => by cases h

theorem ragM.congr {A' : Nat → Option Addr} {n' c' : Nat → Nat} {cell' : Nat → Nat → Nat → Value} (S : St w0 F0 R w) (hi : R[i]? = some (ragM e sz D A n c cell))
    (hA : ∀ q, D q → A q = A' q) (hn : ∀ q, D q → n q = n' q) (hc : ∀ q, D q → c q = c' q) (hv : ∀ q, D q → ∀ k j, k < n q → j < sz → cell q k j = cell' q k j) : St w0 F0 (R.set i (ragM e sz D A' n' c' cell')) w := by
  have hfp : ∀ q, D q → ∀ k, (ownM e sz (A' q) (n' q) (c' q) (cell' q)).fp k ↔ (ownM e sz (A q) (n q) (c q) (cell q)).fp k := fun q hq k => by rw [← hA q hq]; exact Iff.rfl
  refine S.imp hi ?_ ?_
  · rintro ⟨h1, h2⟩
    refine ⟨fun q hq => ?_, fun q r hq hr hqr k hk hk' => h2 q r hq hr hqr k ((hfp q hq k).1 hk) ((hfp r hr k).1 hk')⟩
    rw [← hA q hq, ← hn q hq, ← hc q hq]
    rcases h1 q hq with h | ⟨b, cs, g1, g2, g3, g4, g5, g6⟩
    · exact .inl h
    · exact .inr ⟨b, cs, g1, g2, g3, g4, g5, fun k j hk hj => by rw [← hv q hq k j hk hj]; exact g6 k j hk hj⟩
  · rintro k ⟨q, hq, hk⟩; exact ⟨q, hq, (hfp q hq k).1 hk⟩

theorem ragM.rd {k j : Nat} (S : St w0 F0 R w) (hi : R[i]? = some (ragM e sz D A n c cell)) (hp : D p) (hk : k < n p) (hj : j < sz) : w.cell? (pt (A p) sz k j) = some (cell p k j) :=
  ownM.rd (ragM.pull S hi hp) (i := 0) rfl hk hj
theorem ragM.adr (S : St w0 F0 R w) (hi : R[i]? = some (ragM e sz D A n c cell)) (hp : D p) (hn : 0 < n p) : A p = some ⟨(adr (A p)).block, (adr (A p)).off, none⟩ :=
  ownM.adr (ragM.pull S hi hp) (i := 0) rfl hn
theorem ragM.inS (S : St w0 F0 R w) (hi : R[i]? = some (ragM e sz D A n c cell)) (hp : D p) : InS w noF sz (A p) (n p) (cell p) :=
  ownM.inS (ragM.pull S hi hp) (i := 0) rfl
theorem ragM.le (S : St w0 F0 R w) (hi : R[i]? = some (ragM e sz D A n c cell)) (hp : D p) : n p ≤ c p ∧ c p ≤ maxLen :=
  ownM.le (ragM.pull S hi hp) (i := 0) rfl
end
section
variable {P : Program} {ops : Array Oper} {w w0 : World} {F0 : Nat → Prop} {R : List Mem} {Q : Exit → Act → World → Prop} {rest : List Oper} {N : FN} {L : List (Nat × Value)} {a : Act} {ty : TypeId} {pos : String} {af : Array Edge}
/-- A store of one cell into a row. -/
theorem list_store_rag {t e sz i p kk j : Nat} {D : Nat → Prop} {A : Nat → Option Addr} {n c : Nat → Nat} {cell : Nat → Nat → Nat → Value} {x y : Operand} {v : Value} (H : Fr N L a) (S : St w0 F0 R w) (hi : R[i]? = some (ragM e sz D A n c cell))
    (hx : ev L x = some (.pointer (some (pt (A p) sz kk j)))) (hy : ev L y = some v) (hp : D p) (hk : kk < n p) (hj : j < sz) (hs : Sz P t 1) (h1 : v.oneCell' = true)
    (k : ∀ w' a', St w0 F0 (R.set i (ragM e sz D A n c (upd cell p (cput (cell p) kk j v)))) w' → Fr N L a' → wpList P ops Q rest a' w') :
    wpList P ops Q (⟨none, .store t x y, ty, pos, af, none⟩ :: rest) a w := by
  have hil : i < R.length := (List.getElem?_eq_some_iff.1 hi).1
  refine list_store_own H (ragM.pull S hi hp) (i := 0) rfl hx hy hk hj hs h1 fun w' a' S' H' => ?_
  simp only [List.set_cons_zero] at S'
  have S2 := ragM.put S' (i := i) (p := p) (by rw [List.getElem?_set_self hil]) hp
  rw [List.set_set] at S2
  refine k w' a' ?_ H'
  have S3 := ragM.congr S2 (i := i) (by rw [List.getElem?_set_self hil]) (A' := A) (n' := n) (c' := c) (cell' := upd cell p (cput (cell p) kk j v))
    (fun q _ => by unfold upd; split <;> simp_all) (fun q _ => by unfold upd; split <;> simp_all) (fun q _ => by unfold upd; split <;> simp_all) (fun q _ k j _ _ => rfl)
  rw [List.set_set] at S3
  exact S3
end

/-- What is owned is only read by a call that is handed other parts. -/
theorem ownM.inF {w w0 : World} {F0 : Nat → Prop} {R R1 : List Mem} {e sz n c i : Nat} {A : Option Addr} {cell : Nat → Nat → Value} (S : St w0 F0 R w) (hi : R[i]? = some (ownM e sz A n c cell)) (ks : List Nat) (hs : sel ks R = some R1) (hn : (ks.all fun k => !Nat.beq k i) = true) :
    InS w (fps R1) sz A n cell := by
  intro h0
  obtain ⟨b, o, hA, hb, _, hc⟩ := ownM.inS S hi h0
  refine ⟨b, o, hA, hb, ?_, hc⟩
  rintro ⟨m, hm, hk⟩
  obtain ⟨j, hj⟩ := List.getElem?_of_mem hm
  obtain ⟨q, hq, hq'⟩ := sel_get hs j m hj
  have hne : q ≠ i := by
    have := List.all_eq_true.1 hn q (List.mem_of_getElem? hq)
    intro e
    subst e
    simp at this
  exact S.disj q i m _ hq' hi hne b hk ⟨_, hA, rfl⟩
end Go.Proofs.Ytlmddkekeoebcaa
