/- Chapter 8: passages, stations, edges, and how they lie in memory. The directions in which people who leave can go along the passages. The net of a station, as a list of edges that are joined one by one. Chapter 8: which stations are valid. The net of joined edges: its form, and what it can take across a set of nodes. What a net that is full tells. The greatest flow and the least cut: they are one, and what can be reached does not depend on the way. Chapter 8: ways without steps, how far it is, and the first way. Chapter 8: ways without steps: what is answered, and laws on ways. -/
import Derived.Test.YtopmadlgolnmfaaE3
namespace Go.Proofs.Ytopmadlgolnmfaa
set_option linter.unusedVariables false
set_option linter.unusedSimpArgs false
open Go.RowKit

structure Psg where
  a : Int
  b : Int
  kind : Int
  ticks : Int
  wide : Int
  mach : Int
  still : Int
def Psg.zero : Psg := ⟨0, 0, 0, 0, 0, 0, 0⟩
def Psg.cell (p : Psg) : Nat → Value
  | 0 => .int .i64 p.a
  | 1 => .int .i64 p.b
  | 2 => .int .i64 p.kind
  | 3 => .int .i64 p.ticks
  | 4 => .int .i64 p.wide
  | 5 => .int .i64 p.mach
  | _ => .int .i64 p.still
def pcell (l : List Psg) (k j : Nat) : Value := (l.getD k Psg.zero).cell j
/-- A move: passage, from, at, many. -/
structure Mv where
  pas : Int
  fr : Int
  at_ : Int
  many : Int
def Mv.zero : Mv := ⟨0, 0, 0, 0⟩
def Mv.none : Mv := ⟨-1, 0, 0, 0⟩
def Mv.cells (m : Mv) : List Value := [.int .i64 m.pas, .int .i64 m.fr, .int .i64 m.at_, .int .i64 m.many]
def Mv.cell (m : Mv) : Nat → Value
  | 0 => .int .i64 m.pas
  | 1 => .int .i64 m.fr
  | 2 => .int .i64 m.at_
  | _ => .int .i64 m.many
structure Ent where
  to : Nat
  room : Int
  back : Nat
  mv : Mv
def Ent.zero : Ent := ⟨0, 0, 0, Mv.zero⟩
def Ent.cell (x : Ent) : Nat → Value
  | 0 => .int .i64 (x.to : Int)
  | 1 => .int .i64 x.room
  | 2 => .int .i64 (x.back : Int)
  | 3 => .int .i64 x.mv.pas
  | 4 => .int .i64 x.mv.fr
  | 5 => .int .i64 x.mv.at_
  | _ => .int .i64 x.mv.many
abbrev Tab := Nat → List Ent
def tcell (T : Tab) (i k j : Nat) : Value := ((T i).getD k Ent.zero).cell j
def hdc (A : Nat → Option Addr) (n c : Nat → Nat) (i _j : Nat) : Value := .slice (A i) (n i) (c i)
def tlen (T : Tab) (i : Nat) : Nat := (T i).length
/-- One edge more, and the one back. -/
def joinT (T : Tab) (f t : Nat) (room : Int) (mv : Mv) : Tab :=
  upd (upd T f (T f ++ [⟨t, room, (T t).length, mv⟩])) t (T t ++ [⟨f, 0, (T f).length, Mv.none⟩])

/-- The net of a table of edges. -/
def Tab.net (T : Tab) (k : Nat) : Net := ⟨k, tlen T, fun i j => ((T i).getD j Ent.zero).to, fun i j => ((T i).getD j Ent.zero).back⟩
def Tab.room (T : Tab) : RM := fun i j => ((T i).getD j Ent.zero).room
def Tab.mv (T : Tab) : Nat → Nat → Mv := fun i j => ((T i).getD j Ent.zero).mv
def edgeC (N : Net) (r : RM) (mv : Nat → Nat → Mv) (i k : Nat) : Nat → Value
  | 0 => .int .i64 (N.to i k : Int)
  | 1 => .int .i64 (r i k)
  | 2 => .int .i64 (N.back i k : Int)
  | 3 => .int .i64 (mv i k).pas
  | 4 => .int .i64 (mv i k).fr
  | 5 => .int .i64 (mv i k).at_
  | _ => .int .i64 (mv i k).many
theorem tcell_edge (T : Tab) (k : Nat) : tcell T = edgeC (T.net k) T.room T.mv := by
  funext i q j
  unfold tcell edgeC Ent.cell Tab.net Tab.room Tab.mv
  match j with
  | 0 => rfl
  | 1 => rfl
  | 2 => rfl
  | 3 => rfl
  | 4 => rfl
  | 5 => rfl
  | _ + 6 => rfl
theorem edgeC_put {N : Net} {r : RM} {mv : Nat → Nat → Mv} {p q : Nat} {v : Int} : upd (edgeC N r mv) p (cput (edgeC N r mv p) q 1 (.int .i64 v)) = edgeC N (put2 r p q v) mv := by
  funext i k j
  unfold upd cput
  by_cases h : i = p
  · subst h
    rw [if_pos rfl]
    by_cases h2 : k = q ∧ j = 1
    · obtain ⟨rfl, rfl⟩ := h2
      rw [if_pos ⟨rfl, rfl⟩]
      simp only [edgeC, put2_same]
    · skip
      rw [if_neg h2]
      match j with
      | 0 => rfl
      | 1 => simp only [edgeC]; rw [put2_ne (fun h => h2 ⟨h.2, rfl⟩)]
      | 2 => rfl
      | 3 => rfl
      | 4 => rfl
      | 5 => rfl
      | _ + 6 => rfl
  · rw [if_neg h]
    match j with
    | 0 => rfl
    | 1 => simp only [edgeC]; rw [put2_ne (fun h2 => h h2.1)]
    | 2 => rfl
    | 3 => rfl
    | 4 => rfl
    | 5 => rfl
    | _ + 6 => rfl
def lcl (L : Nat → Int) (i _j : Nat) : Value := .int .i64 (L i)
def ncl (n : Nat → Nat) (i _j : Nat) : Value := .int .i64 (n i : Int)
theorem ncl_put {n : Nat → Nat} {p v : Nat} {x : Int} (h : x = (v : Int)) : cput (ncl n) p 0 (.int .i64 x) = fun i j => if j = 0 then ncl (upd n p v) i j else ncl n i j := by
  subst h
  funext i j
  unfold cput ncl upd
  by_cases h1 : i = p <;> by_cases h2 : j = 0 <;> simp [h1, h2]
end Go.Proofs.Ytopmadlgolnmfaa

namespace Go.Proofs.Ytopmadlgolnmfaa
set_option linter.unusedVariables false
set_option linter.unusedSimpArgs false
open Go.RowKit

def hasI (l : List Int) (x : Int) : Bool := l.any fun y => decide (x = y)
structure Hd where
  pas : Int
  fr : Int
  to : Int
  ticks : Int
  wide : Int
def Hd.zero : Hd := ⟨0, 0, 0, 0, 0⟩
def Hd.cells (h : Hd) : List Value := [.int .i64 h.pas, .int .i64 h.fr, .int .i64 h.to, .int .i64 h.ticks, .int .i64 h.wide]
/-- Whether a machine is out. -/
def bitI (out m : Int) : Int := out / 2 ^ m.toNat % 2
def hdTicks (out : Int) (p : Psg) : Int := if p.kind = 3 ∧ ¬ bitI out p.mach = 0 then p.still else p.ticks
def hdBack (out : Int) (p : Psg) : Bool := !(decide (p.kind = 3) && decide (bitI out p.mach = 0))
theorem hdBack_f {out : Int} {p : Psg} (h : p.kind = 3 ∧ out / 2 ^ p.mach.toNat % 2 = 0) : false = hdBack out p := by unfold hdBack bitI; rw [decide_eq_true h.1, decide_eq_true h.2]; rfl
theorem hdBack_t {out : Int} {p : Psg} (h : ¬ p.kind = 3 ∨ ¬ out / 2 ^ p.mach.toNat % 2 = 0) : true = hdBack out p := by
  unfold hdBack bitI
  rcases h with h | h
  · rw [decide_eq_false h]; rfl
  · rw [decide_eq_false h, Bool.and_false]; rfl
def hdsA (out : Int) (xs : List Int) (k : Nat) (p : Psg) : List Hd := if hasI xs p.a = true then [] else [⟨k, p.a, p.b, hdTicks out p, p.wide⟩]
def hdsB (out : Int) (xs : List Int) (k : Nat) (p : Psg) : List Hd := if (hdBack out p && !hasI xs p.b) = true then [⟨k, p.b, p.a, hdTicks out p, p.wide⟩] else []
def hdsOf (out : Int) (xs : List Int) (k : Nat) (p : Psg) : List Hd := if p.kind = 4 then [] else hdsA out xs k p ++ hdsB out xs k p
def hdsTo (out : Int) (xs : List Int) (ps : List Psg) : Nat → List Hd
  | 0 => []
  | k + 1 => hdsTo out xs ps k ++ hdsOf out xs k (ps.getD k Psg.zero)
def hds (out : Int) (xs : List Int) (ps : List Psg) : List Hd := hdsTo out xs ps ps.length
section
variable {out : Int} {xs : List Int} {ps : List Psg} {k : Nat}
theorem hds_pre : ∀ {n k : Nat}, k ≤ n → ∃ t, hdsTo out xs ps n = hdsTo out xs ps k ++ t := by
  intro n
  induction n with
  | zero => intro k hk; have : k = 0 := by omega
            subst this; exact ⟨[], by simp⟩
  | succ n ih =>
    intro k hk
    by_cases e : k = n + 1
    · subst e; exact ⟨[], by simp⟩
    · obtain ⟨t, ht⟩ := ih (k := k) (by omega)
      exact ⟨t ++ hdsOf out xs n (ps.getD n Psg.zero), by rw [hdsTo, ht, List.append_assoc]⟩
theorem hds_at (hk : k < ps.length) {j : Nat} {h : Hd} (hj : (hdsOf out xs k (ps.getD k Psg.zero))[j]? = some h) : (hds out xs ps).getD ((hdsTo out xs ps k).length + j) Hd.zero = h ∧ (hdsTo out xs ps k).length + j < (hds out xs ps).length := by
  obtain ⟨t, ht⟩ := hds_pre (out := out) (xs := xs) (ps := ps) (n := ps.length) (k := k + 1) (by omega)
  have hjl := (List.getElem?_eq_some_iff.1 hj).1
  unfold hds
  rw [ht, hdsTo]
  refine ⟨?_, by simp only [List.length_append]; omega⟩
  rw [List.getD_eq_getElem?_getD, List.append_assoc, List.getElem?_append_right (by omega), List.getElem?_append_left (by omega), show (hdsTo out xs ps k).length + j - (hdsTo out xs ps k).length = j by omega, hj]
  rfl
/-- The first of a passage. -/
theorem hds_first (hk : k < ps.length) (h4 : ¬ (ps.getD k Psg.zero).kind = 4) (ha : hasI xs (ps.getD k Psg.zero).a = false) :
    (hds out xs ps).getD (hdsTo out xs ps k).length Hd.zero = ⟨k, (ps.getD k Psg.zero).a, (ps.getD k Psg.zero).b, hdTicks out (ps.getD k Psg.zero), (ps.getD k Psg.zero).wide⟩ ∧ (hdsTo out xs ps k).length < (hds out xs ps).length :=
  hds_at (out := out) (xs := xs) hk (j := 0) (by unfold hdsOf hdsA; rw [if_neg h4, if_neg (by rw [ha]; simp)]; rfl)
/-- How many come of its first direction. -/
def qA (xs : List Int) (p : Psg) : Nat := if hasI xs p.a = true then 0 else 1
def qB (out : Int) (xs : List Int) (p : Psg) : Nat := if (hdBack out p && !hasI xs p.b) = true then 1 else 0
theorem hds_second (hk : k < ps.length) (h4 : ¬ (ps.getD k Psg.zero).kind = 4) (hb : (hdBack out (ps.getD k Psg.zero) && !hasI xs (ps.getD k Psg.zero).b) = true) :
    (hds out xs ps).getD ((hdsTo out xs ps k).length + qA xs (ps.getD k Psg.zero)) Hd.zero = ⟨k, (ps.getD k Psg.zero).b, (ps.getD k Psg.zero).a, hdTicks out (ps.getD k Psg.zero), (ps.getD k Psg.zero).wide⟩ ∧ (hdsTo out xs ps k).length + qA xs (ps.getD k Psg.zero) < (hds out xs ps).length :=
  hds_at (out := out) (xs := xs) hk (j := qA xs (ps.getD k Psg.zero)) (by
    unfold hdsOf hdsA hdsB qA
    rw [if_neg h4, if_pos hb]
    by_cases h : hasI xs (ps.getD k Psg.zero).a = true
    · rw [if_pos h, if_pos h]; rfl
    · rw [if_neg h, if_neg h]; rfl)
theorem hds_len (h4 : ¬ (ps.getD k Psg.zero).kind = 4) : (hdsTo out xs ps (k + 1)).length = (hdsTo out xs ps k).length + qA xs (ps.getD k Psg.zero) + qB out xs (ps.getD k Psg.zero) := by
  rw [hdsTo, List.length_append]
  unfold hdsOf hdsA hdsB qA qB
  rw [if_neg h4, List.length_append]
  split <;> split <;> simp
theorem hds_len4 (h4 : (ps.getD k Psg.zero).kind = 4) : (hdsTo out xs ps (k + 1)).length = (hdsTo out xs ps k).length := by
  rw [hdsTo, List.length_append]
  unfold hdsOf
  rw [if_pos h4]
  rfl
theorem hds_le : ∀ k, (hdsTo out xs ps k).length ≤ 2 * k := by
  intro k
  induction k with
  | zero => simp [hdsTo]
  | succ k ih =>
    by_cases h4 : (ps.getD k Psg.zero).kind = 4
    · rw [hds_len4 h4]; omega
    · rw [hds_len h4]
      have h1 : qA xs (ps.getD k Psg.zero) ≤ 1 := by unfold qA; split <;> omega
      have h2 : qB out xs (ps.getD k Psg.zero) ≤ 1 := by unfold qB; split <;> omega
      omega
theorem bk3 (b h : Bool) : b = false ∨ (b = true ∧ h = true) ∨ (b = true ∧ h = false) := by cases b <;> cases h <;> simp
end
end Go.Proofs.Ytopmadlgolnmfaa

namespace Go.Proofs.Ytopmadlgolnmfaa
set_option linter.unusedVariables false
set_option linter.unusedSimpArgs false

structure Jn where
  f : Nat
  t : Nat
  room : Int
  mv : Mv
def joins (J : List Jn) : Tab := J.foldl (fun T j => joinT T j.f j.t j.room j.mv) (fun _ => [])
theorem joins_snoc (J : List Jn) (j : Jn) : joins (J ++ [j]) = joinT (joins J) j.f j.t j.room j.mv := by unfold joins; rw [List.foldl_append]; rfl
theorem joins_len (J : List Jn) (hne : ∀ j ∈ J, j.f ≠ j.t) (i : Nat) : (joins J i).length ≤ J.length := by
  have key : ∀ (n : Nat) (J : List Jn), J.length = n → (∀ j ∈ J, j.f ≠ j.t) → (joins J i).length ≤ n := by
    intro n
    induction n with
    | zero => intro J h _; have : J = [] := List.eq_nil_of_length_eq_zero h
              subst this; exact Nat.le_refl 0
    | succ n ih =>
      intro J h hn
      obtain ⟨J', j, rfl⟩ : ∃ J' j, J = J' ++ [j] := ⟨J.dropLast, J.getLast (by intro e; subst e; simp at h), (List.dropLast_concat_getLast _).symm⟩
      have h1 := ih J' (by simpa using h) (fun x hx => hn x (List.mem_append_left _ hx))
      have h2 := hn j (List.mem_append_right _ (by simp))
      rw [joins_snoc]
      unfold joinT upd
      split
      · rename_i e
        subst e
        simp; omega
      · split
        · rename_i e; subst e; simp; omega
        · omega
  exact key _ J rfl hne

/-- The node of a place at a tick. -/
def nd (P t p : Nat) : Nat := P * t + p
theorem nd_lt {P T t p : Nat} (ht : t ≤ T) (hp : p < P) : nd P t p < P * (T + 1) := by
  have : P * (t + 1) ≤ P * (T + 1) := Nat.mul_le_mul_left _ (by omega)
  rw [Nat.mul_add] at this
  unfold nd
  omega
theorem nd_ne {P t t' p p' : Nat} (ht : t < t') (hp : p < P) : nd P t p ≠ nd P t' p' := by
  have : P * (t + 1) ≤ P * t' := Nat.mul_le_mul_left _ (by omega)
  rw [Nat.mul_add] at this
  unfold nd
  omega
def plenty : Int := 1099511627776
/-- The edges of a place: from the beginning, from tick to tick, to the outside. -/
def jBeg (P T : Nat) (pe : List Int) (p : Nat) : Jn := ⟨P * (T + 1), nd P 0 p, pe.getD p 0, Mv.none⟩
def jWait (P p t : Nat) : Jn := ⟨nd P t p, nd P (t + 1) p, plenty, Mv.none⟩
def jExit (P T p t : Nat) : Jn := ⟨nd P t p, P * (T + 1) + 1, plenty, Mv.none⟩
def jWaits (P p n : Nat) : List Jn := (List.range n).map (jWait P p)
def jExits (P T p n : Nat) : List Jn := (List.range n).map (jExit P T p)
def jPlace (P T : Nat) (pe xs : List Int) (p : Nat) : List Jn := jBeg P T pe p :: (jWaits P p T ++ (if hasI xs p = true then jExits P T p (T + 1) else []))
def jPlaces (P T : Nat) (pe xs : List Int) : Nat → List Jn
  | 0 => []
  | p + 1 => jPlaces P T pe xs p ++ jPlace P T pe xs p
/-- The edges of a heading. -/
def jHead (P : Nat) (h : Hd) (t : Nat) : Jn := ⟨nd P t h.fr.toNat, nd P (t + h.ticks.toNat) h.to.toNat, h.wide, ⟨h.pas, h.fr, t, 0⟩⟩
def jHeadN (P : Nat) (h : Hd) (n : Nat) : List Jn := (List.range n).map (jHead P h)
def jHeads (P T : Nat) (hs : List Hd) : Nat → List Jn
  | 0 => []
  | i + 1 => jHeads P T hs i ++ jHeadN P (hs.getD i Hd.zero) (T + 1 - (hs.getD i Hd.zero).ticks.toNat)
def jAll (P T : Nat) (pe xs : List Int) (hs : List Hd) : List Jn := jPlaces P T pe xs P ++ jHeads P T hs hs.length
theorem range_snoc {f : Nat → Jn} (n : Nat) : (List.range (n + 1)).map f = (List.range n).map f ++ [f n] := by rw [List.range_succ, List.map_append]; rfl
section
variable {P T : Nat} {pe xs : List Int} {hs : List Hd}
/-- Its ends lie apart, and in the net. -/
def JOk (P T : Nat) (j : Jn) : Prop := j.f ≠ j.t ∧ j.f < P * (T + 1) + 2 ∧ j.t < P * (T + 1) + 2
theorem jBeg_ok {p : Nat} (hp : p < P) : JOk P T (jBeg P T pe p) := by
  have := nd_lt (P := P) (T := T) (Nat.zero_le T) hp
  exact ⟨by show P * (T + 1) ≠ nd P 0 p; omega, by show P * (T + 1) < _; omega, by show nd P 0 p < _; omega⟩
theorem jWait_ok {p t : Nat} (hp : p < P) (ht : t < T) : JOk P T (jWait P p t) := by
  have h1 := nd_lt (P := P) (T := T) (show t ≤ T by omega) hp
  have h2 := nd_lt (P := P) (T := T) (show t + 1 ≤ T by omega) hp
  exact ⟨nd_ne (by omega) hp, by show nd P t p < _; omega, by show nd P (t + 1) p < _; omega⟩
theorem jExit_ok {p t : Nat} (hp : p < P) (ht : t ≤ T) : JOk P T (jExit P T p t) := by
  have h1 := nd_lt (P := P) (T := T) ht hp
  exact ⟨by show nd P t p ≠ P * (T + 1) + 1; omega, by show nd P t p < _; omega, by show P * (T + 1) + 1 < _; omega⟩
theorem jHead_ok {h : Hd} {t : Nat} (h1 : h.fr.toNat < P) (h2 : h.to.toNat < P) (hd : 1 ≤ h.ticks.toNat) (ht : t + h.ticks.toNat ≤ T) : JOk P T (jHead P h t) := by
  have h3 := nd_lt (P := P) (T := T) (show t ≤ T by omega) h1
  have h4 := nd_lt (P := P) (T := T) ht h2
  exact ⟨nd_ne (by omega) h1, by show nd P t h.fr.toNat < _; omega, by show nd P (t + h.ticks.toNat) h.to.toNat < _; omega⟩
theorem jPlace_ok {p : Nat} (hp : p < P) : ∀ j ∈ jPlace P T pe xs p, JOk P T j := by
  intro j hj
  unfold jPlace jWaits jExits at hj
  rcases List.mem_cons.1 hj with rfl | hj
  · exact jBeg_ok hp
  · rcases List.mem_append.1 hj with hj | hj
    · obtain ⟨t, ht, rfl⟩ := List.mem_map.1 hj
      exact jWait_ok hp (List.mem_range.1 ht)
    · split at hj
      · obtain ⟨t, ht, rfl⟩ := List.mem_map.1 hj
        exact jExit_ok hp (by have := List.mem_range.1 ht; omega)
      · cases hj
theorem jPlaces_ok : ∀ {n : Nat}, n ≤ P → ∀ j ∈ jPlaces P T pe xs n, JOk P T j := by
  intro n
  induction n with
  | zero => intro _ j hj; cases hj
  | succ n ih =>
    intro hn j hj
    rcases List.mem_append.1 hj with hj | hj
    · exact ih (by omega) j hj
    · exact jPlace_ok (by omega) j hj
theorem jPlaces_len : ∀ n, (jPlaces P T pe xs n).length ≤ n * (2 * T + 2) := by
  intro n
  induction n with
  | zero => simp [jPlaces]
  | succ n ih =>
    have : (jPlace P T pe xs n).length ≤ 2 * T + 2 := by
      unfold jPlace jWaits jExits
      split <;> simp <;> omega
    rw [jPlaces, List.length_append, Nat.add_mul]
    omega
def HdOk (P : Nat) (h : Hd) : Prop := (0 ≤ h.fr ∧ h.fr < P) ∧ (0 ≤ h.to ∧ h.to < P) ∧ (1 ≤ h.ticks ∧ h.ticks ≤ 20)
theorem jHeads_ok (hh : ∀ i, i < hs.length → HdOk P (hs.getD i Hd.zero)) : ∀ {n : Nat}, n ≤ hs.length → ∀ j ∈ jHeads P T hs n, JOk P T j := by
  intro n
  induction n with
  | zero => intro _ j hj; cases hj
  | succ n ih =>
    intro hn j hj
    rcases List.mem_append.1 hj with hj | hj
    · exact ih (by omega) j hj
    · obtain ⟨t, ht, rfl⟩ := List.mem_map.1 hj
      have h1 := hh n (by omega)
      unfold HdOk at h1
      have := List.mem_range.1 ht
      exact jHead_ok (by omega) (by omega) (by omega) (by omega)
theorem jHeads_len : ∀ n, (jHeads P T hs n).length ≤ n * (T + 1) := by
  intro n
  induction n with
  | zero => simp [jHeads]
  | succ n ih =>
    rw [jHeads, List.length_append, Nat.add_mul]
    have : (jHeadN P (hs.getD n Hd.zero) (T + 1 - (hs.getD n Hd.zero).ticks.toNat)).length ≤ T + 1 := by unfold jHeadN; simp
    omega
end
end Go.Proofs.Ytopmadlgolnmfaa

namespace Go.Proofs.Ytopmadlgolnmfaa
set_option linter.unusedVariables false
set_option linter.unusedSimpArgs false
open Go.RowKit

def allN (p : Nat → Bool) : Nat → Bool
  | 0 => true
  | n + 1 => allN p n && p n
theorem allN_iff {p : Nat → Bool} : ∀ {n : Nat}, allN p n = true ↔ ∀ k, k < n → p k = true := by
  intro n
  induction n with
  | zero => exact ⟨fun _ k hk => absurd hk (Nat.not_lt_zero k), fun _ => rfl⟩
  | succ n ih =>
    simp only [allN, Bool.and_eq_true, ih]
    constructor
    · rintro ⟨h1, h2⟩ k hk
      by_cases e : k = n
      · subst e; exact h2
      · exact h1 k (by omega)
    · intro h
      exact ⟨fun k hk => h k (by omega), h n (by omega)⟩
theorem allN_step {p : Nat → Bool} {n : Nat} (h : allN p n = true) (hp : p n = true) : allN p (n + 1) = true := by simp only [allN, h, hp]; rfl
theorem allN_false {p : Nat → Bool} {n k : Nat} (hk : k < n) (h : p k = false) : allN p n = false := by
  cases ha : allN p n with
  | false => rfl
  | true => rw [allN_iff.1 ha k hk] at h; cases h

def psgOk (P : Int) (p : Psg) : Bool := decide (0 ≤ p.a ∧ p.a < P ∧ 0 ≤ p.b ∧ p.b < P ∧ p.a ≠ p.b ∧ 1 ≤ p.ticks ∧ p.ticks ≤ 20 ∧ 1 ≤ p.wide ∧ p.wide ≤ 50 ∧
  ((p.kind = 1 ∨ p.kind = 2 ∨ p.kind = 5) ∧ p.mach = -1 ∧ p.still = 0 ∨ p.kind = 3 ∧ (0 ≤ p.mach ∧ p.mach ≤ 11) ∧ (1 ≤ p.still ∧ p.still ≤ 20) ∨ p.kind = 4 ∧ (0 ≤ p.mach ∧ p.mach ≤ 11) ∧ p.still = 0))
def machAt (ps : List Psg) (k : Nat) : Int := (ps.getD k Psg.zero).mach
/-- How many of the first passages have a machine. -/
def cntM (ps : List Psg) (m : Int) (k : Nat) : Int := sm (fun j => if machAt ps j = m then 1 else 0) k
theorem cntM_nn {ps : List Psg} {m : Int} {k : Nat} : 0 ≤ cntM ps m k := sm_nonneg fun i _ => by split <;> omega
theorem cntM_le {ps : List Psg} {m : Int} : ∀ k, cntM ps m k ≤ k := by
  intro k
  induction k with
  | zero => exact Int.le_refl 0
  | succ k ih => unfold cntM at ih ⊢; rw [sm]; split <;> omega
theorem cntM_zero {ps : List Psg} {m : Int} {k : Nat} : cntM ps m k = 0 ↔ ∀ j, j < k → machAt ps j ≠ m := by
  constructor
  · intro h j hj e
    have := sm_eq_zero (f := fun j => if machAt ps j = m then 1 else 0) (fun i _ => by split <;> omega) h j hj
    simp [e] at this
  · intro h
    exact sm_zero fun i hi => if_neg (h i hi)
def pasOk (P : Int) (ps : List Psg) (k : Nat) : Bool := psgOk P (ps.getD k Psg.zero) && decide (machAt ps k < 0 ∨ cntM ps (machAt ps k) k = 0)
def exOk (P : Int) (xs : List Int) (k : Nat) : Bool := decide (0 ≤ xs.getD k 0 ∧ xs.getD k 0 < P ∧ (k = 0 ∨ xs.getD (k - 1) 0 < xs.getD k 0))
def stOk (P : Int) (ps : List Psg) (xs : List Int) : Bool := (decide (1 ≤ P ∧ P ≤ 10 ∧ ps.length ≤ 24) && allN (pasOk P ps) ps.length) && allN (exOk P xs) xs.length
def stE (P : Int) (ps : List Psg) (xs : List Int) : Int := if stOk P ps xs = true then 0 else 80
theorem st_size {P : Int} {ps : List Psg} {xs : List Int} (h : ¬ (1 ≤ P ∧ P ≤ 10 ∧ ps.length ≤ 24)) : stE P ps xs = 80 := by
  unfold stE stOk; rw [decide_eq_false h]; rfl
theorem st_pas {P : Int} {ps : List Psg} {xs : List Int} {k : Nat} (hk : k < ps.length) (h : pasOk P ps k = false) : stE P ps xs = 80 := by
  unfold stE stOk; rw [allN_false hk h, Bool.and_false]; rfl
theorem st_ex {P : Int} {ps : List Psg} {xs : List Int} {k : Nat} (hk : k < xs.length) (h : exOk P xs k = false) : stE P ps xs = 80 := by
  unfold stE stOk; rw [allN_false hk h, Bool.and_false]; rfl
theorem st_ok {P : Int} {ps : List Psg} {xs : List Int} (h1 : 1 ≤ P ∧ P ≤ 10 ∧ ps.length ≤ 24) (h2 : allN (pasOk P ps) ps.length = true) (h3 : allN (exOk P xs) xs.length = true) : stE P ps xs = 0 := by
  unfold stE stOk; rw [decide_eq_true h1, h2, h3]; rfl
theorem stE_iff {P : Int} {ps : List Psg} {xs : List Int} : stE P ps xs = 0 ↔ stOk P ps xs = true := by
  unfold stE; split <;> simp [*]
/-- A map of how many passages have which machine. -/
def CntMap (ps : List Psg) (k : Nat) (l : List (Int × Value)) : Prop := ∀ m : Int, (getL l m).getD (.int .i64 0) = .int .i64 (cntM ps m k)
theorem CntMap.nil (ps : List Psg) : CntMap ps 0 [] := fun m => rfl
theorem CntMap.step {ps : List Psg} {k : Nat} {l : List (Int × Value)} (h : CntMap ps k l) : CntMap ps (k + 1) (setL l (machAt ps k) (.int .i64 (cntM ps (machAt ps k) k + 1))) := by
  intro m
  rw [getL_set]
  unfold cntM
  rw [sm]
  by_cases e : m = machAt ps k
  · subst e; rw [if_pos rfl, if_pos rfl]; rfl
  · rw [if_neg e, if_neg (fun h => e h.symm), Int.add_zero]; exact h m
/-- What holds in a valid station. -/
structure StV (P : Int) (ps : List Psg) (xs : List Int) : Prop where
  size : 1 ≤ P ∧ P ≤ 10 ∧ ps.length ≤ 24
  pas : ∀ k, k < ps.length → psgOk P (ps.getD k Psg.zero) = true
  mach : ∀ k, k < ps.length → 0 ≤ machAt ps k → ∀ j, j < k → machAt ps j ≠ machAt ps k
  ex : ∀ k, k < xs.length → 0 ≤ xs.getD k 0 ∧ xs.getD k 0 < P ∧ (k = 0 ∨ xs.getD (k - 1) 0 < xs.getD k 0)
theorem st_valid {P : Int} {ps : List Psg} {xs : List Int} (h : stE P ps xs = 0) : StV P ps xs := by
  have h1 := stE_iff.1 h
  unfold stOk at h1
  simp only [Bool.and_eq_true, decide_eq_true_eq] at h1
  obtain ⟨⟨h1, h2⟩, h3⟩ := h1
  refine ⟨h1, fun k hk => ?_, fun k hk h0 => ?_, fun k hk => ?_⟩
  · have := allN_iff.1 h2 k hk
    unfold pasOk at this
    rw [Bool.and_eq_true] at this
    exact this.1
  · have := allN_iff.1 h2 k hk
    unfold pasOk at this
    simp only [Bool.and_eq_true, decide_eq_true_eq] at this
    exact cntM_zero.1 (by omega)
  · have := allN_iff.1 h3 k hk
    unfold exOk at this
    simpa using this
theorem psgOk_iff {P : Int} {p : Psg} : psgOk P p = true ↔ (0 ≤ p.a ∧ p.a < P ∧ 0 ≤ p.b ∧ p.b < P ∧ p.a ≠ p.b ∧ 1 ≤ p.ticks ∧ p.ticks ≤ 20 ∧ 1 ≤ p.wide ∧ p.wide ≤ 50 ∧
  ((p.kind = 1 ∨ p.kind = 2 ∨ p.kind = 5) ∧ p.mach = -1 ∧ p.still = 0 ∨ p.kind = 3 ∧ (0 ≤ p.mach ∧ p.mach ≤ 11) ∧ (1 ≤ p.still ∧ p.still ≤ 20) ∨ p.kind = 4 ∧ (0 ≤ p.mach ∧ p.mach ≤ 11) ∧ p.still = 0)) := by
  unfold psgOk; rw [decide_eq_true_eq]
theorem psgOk_not {P : Int} {p : Psg} (h : ¬ (0 ≤ p.a ∧ p.a < P ∧ 0 ≤ p.b ∧ p.b < P ∧ p.a ≠ p.b ∧ 1 ≤ p.ticks ∧ p.ticks ≤ 20 ∧ 1 ≤ p.wide ∧ p.wide ≤ 50 ∧
  ((p.kind = 1 ∨ p.kind = 2 ∨ p.kind = 5) ∧ p.mach = -1 ∧ p.still = 0 ∨ p.kind = 3 ∧ (0 ≤ p.mach ∧ p.mach ≤ 11) ∧ (1 ≤ p.still ∧ p.still ≤ 20) ∨ p.kind = 4 ∧ (0 ≤ p.mach ∧ p.mach ≤ 11) ∧ p.still = 0))) : psgOk P p = false := by
  unfold psgOk; exact decide_eq_false h
theorem hds_ok {P : Nat} {ps : List Psg} {xs : List Int} {out : Int} (h : StV P ps xs) : ∀ i, i < (hds out xs ps).length → HdOk P ((hds out xs ps).getD i Hd.zero) := by
  have key : ∀ n, n ≤ ps.length → ∀ x ∈ hdsTo out xs ps n, HdOk P x := by
    intro n
    induction n with
    | zero => intro _ x hx; cases hx
    | succ n ih =>
      intro hn x hx
      rcases List.mem_append.1 hx with hx | hx
      · exact ih (by omega) x hx
      · have hp := psgOk_iff.1 (h.pas n (by omega))
        have ht : 1 ≤ hdTicks out (ps.getD n Psg.zero) ∧ hdTicks out (ps.getD n Psg.zero) ≤ 20 := by
          unfold hdTicks; split <;> omega
        unfold hdsOf hdsA hdsB at hx
        unfold HdOk
        split at hx
        · cases hx
        · rcases List.mem_append.1 hx with hx | hx
          · split at hx
            · cases hx
            · rw [List.mem_singleton.1 hx]; dsimp only; omega
          · split at hx
            · rw [List.mem_singleton.1 hx]; dsimp only; omega
            · cases hx
  intro i hi
  rw [List.getD_eq_getElem?_getD, List.getElem?_eq_getElem hi]
  exact key _ (Nat.le_refl _) _ (List.getElem_mem hi)
/-- People: how many at each place. -/
def crowdOk (P : Int) (pe : List Int) : Bool := allN (fun k => decide (0 ≤ pe.getD k 0 ∧ pe.getD k 0 ≤ 1000)) pe.length && decide ((pe.length : Int) = P)
/-- The error of a station, a set of machines, people and ticks. -/
def leaveE (P : Int) (ps : List Psg) (xs : List Int) (out : Int) (pe : List Int) (T : Int) : Int :=
  if stE P ps xs ≠ 0 then stE P ps xs else if (decide (0 ≤ out ∧ out ≤ 4095) && crowdOk P pe && decide (0 ≤ T ∧ T ≤ 60)) = true then 0 else 1
theorem leaveE_ok {P : Int} {ps : List Psg} {xs : List Int} {out : Int} {pe : List Int} {T : Int} (h : leaveE P ps xs out pe T = 0) : stE P ps xs = 0 ∧ (0 ≤ out ∧ out ≤ 4095) ∧ crowdOk P pe = true ∧ (0 ≤ T ∧ T ≤ 60) := by
  unfold leaveE at h
  split at h
  · omega
  · rename_i h1
    split at h
    · rename_i h2
      simp only [Bool.and_eq_true, decide_eq_true_eq] at h2
      exact ⟨by omega, h2.1.1, h2.1.2, h2.2⟩
    · cases h
theorem crowd_ok {P : Int} {pe : List Int} (h : crowdOk P pe = true) : (∀ k, k < pe.length → 0 ≤ pe.getD k 0 ∧ pe.getD k 0 ≤ 1000) ∧ (pe.length : Int) = P := by
  unfold crowdOk at h
  simp only [Bool.and_eq_true, decide_eq_true_eq] at h
  exact ⟨fun k hk => by simpa using allN_iff.1 h.1 k hk, h.2⟩
end Go.Proofs.Ytopmadlgolnmfaa

namespace Go.Proofs.Ytopmadlgolnmfaa
set_option linter.unusedVariables false
set_option linter.unusedSimpArgs false

theorem getD_snoc {l : List Ent} {e : Ent} {j : Nat} : (l ++ [e]).getD j Ent.zero = if j = l.length then e else l.getD j Ent.zero := by
  rw [List.getD_eq_getElem?_getD, List.getD_eq_getElem?_getD]
  by_cases h : j = l.length
  · subst h; rw [if_pos rfl, List.getElem?_append_right (Nat.le_refl _), Nat.sub_self]; rfl
  · rw [if_neg h]
    rcases Nat.lt_or_ge j l.length with h1 | h1
    · rw [List.getElem?_append_left h1]
    · rw [List.getElem?_append_right h1, List.getElem?_eq_none (by simp; omega), List.getElem?_eq_none h1]
section
variable {T : Tab} {f t k : Nat} {room : Int} {mv : Mv}
theorem join_len (hft : f ≠ t) (i : Nat) : tlen (joinT T f t room mv) i = tlen T i + (if i = f then 1 else 0) + (if i = t then 1 else 0) := by
  unfold tlen joinT upd
  by_cases h1 : i = t
  · subst h1
    rw [if_pos rfl, if_neg (fun e => hft e.symm), if_pos rfl]; simp
  · rw [if_neg h1, if_neg h1]
    by_cases h2 : i = f
    · subst h2; rw [if_pos rfl, if_pos rfl]; simp
    · rw [if_neg h2, if_neg h2]; rfl
def entAt (T : Tab) (i j : Nat) : Ent := (T i).getD j Ent.zero
theorem join_at (hft : f ≠ t) (i j : Nat) : entAt (joinT T f t room mv) i j = if i = f ∧ j = tlen T f then ⟨t, room, tlen T t, mv⟩ else if i = t ∧ j = tlen T t then ⟨f, 0, tlen T f, Mv.none⟩ else entAt T i j := by
  unfold entAt joinT upd tlen
  by_cases h1 : i = t
  · subst h1
    rw [if_pos rfl, if_neg (fun h => hft h.1.symm), getD_snoc]
    by_cases h2 : j = (T i).length
    · rw [if_pos h2, if_pos ⟨rfl, h2⟩]
    · rw [if_neg h2, if_neg (fun h => h2 h.2)]
  · rw [if_neg h1]
    by_cases h2 : i = f
    · subst h2
      rw [if_pos rfl, getD_snoc]
      by_cases h3 : j = (T i).length
      · rw [if_pos h3, if_pos ⟨rfl, h3⟩]
      · rw [if_neg h3, if_neg (fun h => h3 h.2), if_neg (fun h => h1 h.1)]
    · rw [if_neg h2, if_neg (fun h => h2 h.1), if_neg (fun h => h1 h.1)]
theorem net_wf_join (hft : f ≠ t) (hf : f < k) (ht : t < k) (W : (T.net k).Wf) : ((joinT T f t room mv).net k).Wf := by
  have hlen := join_len (T := T) (room := room) (mv := mv) hft
  have hat := join_at (T := T) (room := room) (mv := mv) hft
  have key : ∀ i, i < k → ∀ j, j < tlen (joinT T f t room mv) i → (i = f ∧ j = tlen T f) ∨ (i = t ∧ j = tlen T t) ∨ (¬ (i = f ∧ j = tlen T f) ∧ ¬ (i = t ∧ j = tlen T t) ∧ j < tlen T i) := by
    intro i hi j hj
    rw [hlen] at hj
    by_cases h1 : i = f ∧ j = tlen T f
    · exact .inl h1
    · by_cases h2 : i = t ∧ j = tlen T t
      · exact .inr (.inl h2)
      · refine .inr (.inr ⟨h1, h2, ?_⟩)
        by_cases e1 : i = f
        · subst e1; rw [if_pos rfl, if_neg hft] at hj; have : j ≠ tlen T i := fun e => h1 ⟨rfl, e⟩; omega
        · by_cases e2 : i = t
          · subst e2; rw [if_neg e1, if_pos rfl] at hj; have : j ≠ tlen T i := fun e => h2 ⟨rfl, e⟩; omega
          · rw [if_neg e1, if_neg e2] at hj; omega
  have hne' : ¬ (t = f ∧ tlen T t = tlen T f) := fun h => hft h.1.symm
  have kold : ∀ i, i < k → ∀ j, j < tlen T i → entAt (joinT T f t room mv) i j = entAt T i j := by
    intro i hi j hj
    rw [hat, if_neg (fun h => by rw [h.1, h.2] at hj; omega), if_neg (fun h => by rw [h.1, h.2] at hj; omega)]
  have hW : ∀ i, i < k → ∀ j, j < tlen T i → (entAt T i j).to < k ∧ (entAt T i j).to ≠ i ∧ (entAt T i j).back < tlen T (entAt T i j).to ∧ (entAt T (entAt T i j).to (entAt T i j).back).to = i ∧ (entAt T (entAt T i j).to (entAt T i j).back).back = j :=
    fun i hi j hj => ⟨W.to_lt i hi j hj, W.to_ne i hi j hj, W.bk_lt i hi j hj, W.bk_to i hi j hj, W.bk_bk i hi j hj⟩
  have all : ∀ i, i < k → ∀ j, j < tlen (joinT T f t room mv) i → (entAt (joinT T f t room mv) i j).to < k ∧ (entAt (joinT T f t room mv) i j).to ≠ i ∧ (entAt (joinT T f t room mv) i j).back < tlen (joinT T f t room mv) (entAt (joinT T f t room mv) i j).to ∧
      (entAt (joinT T f t room mv) (entAt (joinT T f t room mv) i j).to (entAt (joinT T f t room mv) i j).back).to = i ∧ (entAt (joinT T f t room mv) (entAt (joinT T f t room mv) i j).to (entAt (joinT T f t room mv) i j).back).back = j := by
    intro i hi j hj
    rcases key i hi j hj with ⟨rfl, rfl⟩ | ⟨rfl, rfl⟩ | ⟨h1, h2, h3⟩
    · have e1 : entAt (joinT T i t room mv) i (tlen T i) = ⟨t, room, tlen T t, mv⟩ := by rw [hat, if_pos ⟨rfl, rfl⟩]
      have e2 : entAt (joinT T i t room mv) t (tlen T t) = ⟨i, 0, tlen T i, Mv.none⟩ := by rw [hat, if_neg hne', if_pos ⟨rfl, rfl⟩]
      rw [e1]
      dsimp only
      rw [e2]
      refine ⟨ht, fun h => hft h.symm, ?_, rfl, rfl⟩
      rw [hlen, if_pos rfl]; omega
    · have e1 : entAt (joinT T f i room mv) i (tlen T i) = ⟨f, 0, tlen T f, Mv.none⟩ := by rw [hat, if_neg hne', if_pos ⟨rfl, rfl⟩]
      have e2 : entAt (joinT T f i room mv) f (tlen T f) = ⟨i, room, tlen T i, mv⟩ := by rw [hat, if_pos ⟨rfl, rfl⟩]
      rw [e1]
      dsimp only
      rw [e2]
      refine ⟨hf, hft, ?_, rfl, rfl⟩
      rw [hlen, if_pos rfl]; omega
    · rw [kold i hi j h3]
      obtain ⟨g1, g2, g3, g4, g5⟩ := hW i hi j h3
      rw [kold _ g1 _ g3]
      refine ⟨g1, g2, ?_, g4, g5⟩
      rw [hlen]; omega
  exact ⟨fun i hi j hj => (all i hi j hj).1, fun i hi j hj => (all i hi j hj).2.1, fun i hi j hj => (all i hi j hj).2.2.1, fun i hi j hj => (all i hi j hj).2.2.2.1, fun i hi j hj => (all i hi j hj).2.2.2.2⟩
theorem net_ok_join {B : Int} (hft : f ≠ t) (hf : f < k) (ht : t < k) (hr : 0 ≤ room ∧ room ≤ B) (W : (T.net k).Wf) (O : Ok (T.net k) T.room B) : Ok ((joinT T f t room mv).net k) (joinT T f t room mv).room B := by
  have hlen := join_len (T := T) (room := room) (mv := mv) hft
  have hat := join_at (T := T) (room := room) (mv := mv) hft
  have W' := net_wf_join (room := room) (mv := mv) hft hf ht W
  have hroom : ∀ i j, (joinT T f t room mv).room i j = if i = f ∧ j = tlen T f then room else if i = t ∧ j = tlen T t then 0 else T.room i j := by
    intro i j
    show (entAt (joinT T f t room mv) i j).room = _
    rw [hat]
    split
    · rfl
    · split <;> rfl
  have hold : ∀ i, i < k → ∀ j, j < tlen (joinT T f t room mv) i → ¬ (i = f ∧ j = tlen T f) → ¬ (i = t ∧ j = tlen T t) → j < tlen T i := by
    intro i hi j hj h1 h2
    rw [hlen] at hj
    by_cases e1 : i = f
    · subst e1; rw [if_pos rfl, if_neg hft] at hj; have : j ≠ tlen T i := fun e => h1 ⟨rfl, e⟩; omega
    · by_cases e2 : i = t
      · subst e2; rw [if_neg e1, if_pos rfl] at hj; have : j ≠ tlen T i := fun e => h2 ⟨rfl, e⟩; omega
      · rw [if_neg e1, if_neg e2] at hj; omega
  refine ⟨fun i hi j hj => ?_, fun i hi j hj => ?_⟩
  · rw [hroom]
    split
    · exact hr.1
    · rename_i h1
      split
      · exact Int.le_refl _
      · rename_i h2
        exact O.nn i hi j (hold i hi j hj h1 h2)
  · have hne' : ¬ (t = f ∧ tlen T t = tlen T f) := fun h => hft h.1.symm
    show (joinT T f t room mv).room i j + (joinT T f t room mv).room (entAt (joinT T f t room mv) i j).to (entAt (joinT T f t room mv) i j).back ≤ B
    by_cases h1 : i = f ∧ j = tlen T f
    · rw [hat, if_pos h1]
      dsimp only
      rw [hroom, hroom, if_pos h1, if_neg hne', if_pos ⟨rfl, rfl⟩]
      omega
    · by_cases h2 : i = t ∧ j = tlen T t
      · rw [hat, if_neg h1, if_pos h2]
        dsimp only
        rw [hroom, hroom, if_neg h1, if_pos h2, if_pos ⟨rfl, rfl⟩]
        omega
      · have h3 := hold i hi j hj h1 h2
        have g1 := W.to_lt i hi j h3
        have g3 := W.bk_lt i hi j h3
        rw [hat, if_neg h1, if_neg h2, hroom, hroom, if_neg h1, if_neg h2]
        have e1 : ¬ ((entAt T i j).to = f ∧ (entAt T i j).back = tlen T f) := fun h => by
          have : (entAt T i j).back < tlen T (entAt T i j).to := g3
          rw [h.1, h.2] at this; omega
        have e2 : ¬ ((entAt T i j).to = t ∧ (entAt T i j).back = tlen T t) := fun h => by
          have : (entAt T i j).back < tlen T (entAt T i j).to := g3
          rw [h.1, h.2] at this; omega
        rw [if_neg e1, if_neg e2]
        exact O.pair i hi j h3
theorem resid_snoc {e : Ent} {S : Nat → Bool} (hf : f < k) : resid (Tab.net (upd T f (T f ++ [e])) k) (Tab.room (upd T f (T f ++ [e]))) S = resid (T.net k) T.room S + (if S f = true ∧ S e.to = false then e.room else 0) := by
  unfold resid
  have hrow : ∀ i, i ≠ f → upd T f (T f ++ [e]) i = T i := fun i h => upd_ne _ _ h
  have h := sm_upd (f := fun i => sm (fun j => if S i = true ∧ S ((T.net k).to i j) = false then T.room i j else 0) ((T.net k).n i))
    (g := fun i => sm (fun j => if S i = true ∧ S ((Tab.net (upd T f (T f ++ [e])) k).to i j) = false then Tab.room (upd T f (T f ++ [e])) i j else 0) ((Tab.net (upd T f (T f ++ [e])) k).n i)) hf
    (fun i hi hne => by
      show sm (fun j => if S i = true ∧ S (entAt (upd T f (T f ++ [e])) i j).to = false then (entAt (upd T f (T f ++ [e])) i j).room else 0) (tlen (upd T f (T f ++ [e])) i) = _
      unfold entAt tlen
      rw [hrow i hne]
      rfl)
  show sm _ k = _
  refine h.trans ?_
  congr 1
  have e1 : sm (fun j => if S f = true ∧ S (entAt (upd T f (T f ++ [e])) f j).to = false then (entAt (upd T f (T f ++ [e])) f j).room else 0) (tlen (upd T f (T f ++ [e])) f) =
      sm (fun j => if S f = true ∧ S (entAt T f j).to = false then (entAt T f j).room else 0) (tlen T f) + (if S f = true ∧ S e.to = false then e.room else 0) := by
    have hl : tlen (upd T f (T f ++ [e])) f = tlen T f + 1 := by unfold tlen; rw [upd_same]; simp
    rw [hl, sm]
    have hlast : entAt (upd T f (T f ++ [e])) f (tlen T f) = e := by unfold entAt tlen; rw [upd_same, getD_snoc, if_pos rfl]
    rw [hlast]
    congr 1
    refine sm_congr fun j hj => ?_
    have : entAt (upd T f (T f ++ [e])) f j = entAt T f j := by unfold entAt; rw [upd_same, getD_snoc, if_neg (by unfold tlen at hj; omega)]
    rw [this]
  show sm (fun j => if S f = true ∧ S (entAt (upd T f (T f ++ [e])) f j).to = false then (entAt (upd T f (T f ++ [e])) f j).room else 0) (tlen (upd T f (T f ++ [e])) f) -
      sm (fun j => if S f = true ∧ S (entAt T f j).to = false then (entAt T f j).room else 0) (tlen T f) = _
  omega
end

/-- What edges can take across a set. -/
def capJ (S : Nat → Bool) : List Jn → Int
  | [] => 0
  | j :: J => (if S j.f = true ∧ S j.t = false then j.room else 0) + capJ S J
theorem capJ_append (S : Nat → Bool) (J J' : List Jn) : capJ S (J ++ J') = capJ S J + capJ S J' := by
  induction J with
  | nil => simp [capJ]
  | cons j J ih => simp only [List.cons_append, capJ, ih]; omega
theorem capJ_zero {S : Nat → Bool} {J : List Jn} (h : ∀ j ∈ J, S j.f = true → S j.t = false → j.room = 0) : capJ S J = 0 := by
  induction J with
  | nil => rfl
  | cons j J ih =>
    rw [capJ, ih (fun x hx => h x (List.mem_cons_of_mem _ hx))]
    split
    · rename_i h1; rw [h j (List.mem_cons_self ..) h1.1 h1.2]; rfl
    · rfl
theorem resid_nil {k : Nat} {S : Nat → Bool} : resid (Tab.net (fun _ => []) k) (Tab.room (fun _ => [])) S = 0 := sm_zero fun i _ => rfl
/-- The net of edges that are joined. -/
theorem joins_net {k : Nat} {B : Int} (hB : 0 ≤ B) : ∀ (J : List Jn), (∀ j ∈ J, j.f ≠ j.t ∧ j.f < k ∧ j.t < k ∧ 0 ≤ j.room ∧ j.room ≤ B) → ((joins J).net k).Wf ∧ Ok ((joins J).net k) (joins J).room B ∧ ∀ S, resid ((joins J).net k) (joins J).room S = capJ S J := by
  have key : ∀ (n : Nat) (J : List Jn), J.length = n → (∀ j ∈ J, j.f ≠ j.t ∧ j.f < k ∧ j.t < k ∧ 0 ≤ j.room ∧ j.room ≤ B) → ((joins J).net k).Wf ∧ Ok ((joins J).net k) (joins J).room B ∧ ∀ S, resid ((joins J).net k) (joins J).room S = capJ S J := by
    intro n
    induction n with
    | zero =>
      intro J h _
      have : J = [] := List.eq_nil_of_length_eq_zero h
      subst this
      exact ⟨⟨fun i _ j hj => absurd hj (Nat.not_lt_zero j), fun i _ j hj => absurd hj (Nat.not_lt_zero j), fun i _ j hj => absurd hj (Nat.not_lt_zero j), fun i _ j hj => absurd hj (Nat.not_lt_zero j), fun i _ j hj => absurd hj (Nat.not_lt_zero j)⟩,
        ⟨fun i _ j hj => absurd hj (Nat.not_lt_zero j), fun i _ j hj => absurd hj (Nat.not_lt_zero j)⟩, fun S => resid_nil⟩
    | succ n ih =>
      intro J h hn
      obtain ⟨J', j, rfl⟩ : ∃ J' j, J = J' ++ [j] := ⟨J.dropLast, J.getLast (by intro e; subst e; simp at h), (List.dropLast_concat_getLast _).symm⟩
      obtain ⟨W, O, hr⟩ := ih J' (by simpa using h) (fun x hx => hn x (List.mem_append_left _ hx))
      obtain ⟨h1, h2, h3, h4, h5⟩ := hn j (List.mem_append_right _ (by simp))
      rw [joins_snoc]
      refine ⟨net_wf_join h1 h2 h3 W, net_ok_join h1 h2 h3 ⟨h4, h5⟩ W O, fun S => ?_⟩
      rw [capJ_append]
      unfold joinT
      have e1 := resid_snoc (T := joins J') (f := j.f) (k := k) (e := ⟨j.t, j.room, (joins J' j.t).length, j.mv⟩) (S := S) h2
      have e2 := resid_snoc (T := upd (joins J') j.f (joins J' j.f ++ [⟨j.t, j.room, (joins J' j.t).length, j.mv⟩])) (f := j.t) (k := k) (e := ⟨j.f, 0, (joins J' j.f).length, Mv.none⟩) (S := S) h3
      rw [upd_ne (i := j.t) _ _ (fun e => h1 e.symm)] at e2
      rw [e2, e1, hr S]
      simp only [capJ]
      split <;> split <;> omega
  intro J h
  exact key _ J rfl h
end Go.Proofs.Ytopmadlgolnmfaa

namespace Go.Proofs.Ytopmadlgolnmfaa
set_option linter.unusedVariables false
set_option linter.unusedSimpArgs false

section
variable {P T : Nat} {pe xs : List Int} {hs : List Hd}
def JRoom (B : Int) (j : Jn) : Prop := 0 ≤ j.room ∧ j.room ≤ B
theorem place_room {p : Nat} (hpe : ∀ k, k < pe.length → 0 ≤ pe.getD k 0 ∧ pe.getD k 0 ≤ 1000) : ∀ j ∈ jPlace P T pe xs p, JRoom 1099511627776 j := by
  intro j hj
  unfold jPlace jWaits jExits at hj
  rcases List.mem_cons.1 hj with rfl | hj
  · unfold JRoom jBeg
    dsimp only
    by_cases h : p < pe.length
    · have := hpe p h; omega
    · rw [List.getD_eq_getElem?_getD, List.getElem?_eq_none (by omega)]; simp
  · rcases List.mem_append.1 hj with hj | hj
    · obtain ⟨t, _, rfl⟩ := List.mem_map.1 hj
      unfold JRoom jWait plenty; dsimp only; omega
    · split at hj
      · obtain ⟨t, _, rfl⟩ := List.mem_map.1 hj
        unfold JRoom jExit plenty; dsimp only; omega
      · cases hj
theorem places_room (hpe : ∀ k, k < pe.length → 0 ≤ pe.getD k 0 ∧ pe.getD k 0 ≤ 1000) : ∀ n, ∀ j ∈ jPlaces P T pe xs n, JRoom 1099511627776 j := by
  intro n
  induction n with
  | zero => intro j hj; cases hj
  | succ n ih =>
    intro j hj
    rcases List.mem_append.1 hj with hj | hj
    · exact ih j hj
    · exact place_room hpe j hj
theorem heads_room (hw : ∀ i, i < hs.length → 1 ≤ (hs.getD i Hd.zero).wide ∧ (hs.getD i Hd.zero).wide ≤ 50) : ∀ {n}, n ≤ hs.length → ∀ j ∈ jHeads P T hs n, JRoom 1099511627776 j := by
  intro n
  induction n with
  | zero => intro _ j hj; cases hj
  | succ n ih =>
    intro hn j hj
    rcases List.mem_append.1 hj with hj | hj
    · exact ih (by omega) j hj
    · obtain ⟨t, _, rfl⟩ := List.mem_map.1 hj
      have := hw n (by omega)
      unfold JRoom jHead; dsimp only; omega
/-- What comes from the beginning. -/
theorem cap_begin (hpe : ∀ k, k < pe.length → 0 ≤ pe.getD k 0 ∧ pe.getD k 0 ≤ 1000) (hh : ∀ i, i < hs.length → HdOk P (hs.getD i Hd.zero)) : capJ (fun v => decide (v = P * (T + 1))) (jAll P T pe xs hs) ≤ 1000 * P := by
  have h1 : ∀ n, n ≤ P → capJ (fun v => decide (v = P * (T + 1))) (jPlaces P T pe xs n) ≤ 1000 * n := by
    intro n
    induction n with
    | zero => intro _; simp [jPlaces, capJ]
    | succ n ih =>
      intro hn
      rw [jPlaces, capJ_append]
      have h2 := ih (by omega)
      have h3 : capJ (fun v => decide (v = P * (T + 1))) (jPlace P T pe xs n) ≤ 1000 := by
        unfold jPlace
        rw [capJ, capJ_zero (J := jWaits P n T ++ _)]
        · have hb : (jBeg P T pe n).room ≤ 1000 := by
            unfold jBeg; dsimp only
            by_cases h : n < pe.length
            · have := hpe n h; omega
            · rw [List.getD_eq_getElem?_getD, List.getElem?_eq_none (by omega)]; simp
          split <;> omega
        · intro j hj hf
          exfalso
          have hf' : j.f = P * (T + 1) := by simpa using hf
          unfold jWaits jExits at hj
          rcases List.mem_append.1 hj with hj | hj
          · obtain ⟨t, ht, rfl⟩ := List.mem_map.1 hj
            have := nd_lt (P := P) (T := T) (t := t) (p := n) (by have := List.mem_range.1 ht; omega) (by omega)
            have e : (jWait P n t).f = nd P t n := rfl
            omega
          · split at hj
            · obtain ⟨t, ht, rfl⟩ := List.mem_map.1 hj
              have := nd_lt (P := P) (T := T) (t := t) (p := n) (by have := List.mem_range.1 ht; omega) (by omega)
              have e : (jExit P T n t).f = nd P t n := rfl
              omega
            · cases hj
      push_cast
      omega
  have h2 : ∀ n, n ≤ hs.length → capJ (fun v => decide (v = P * (T + 1))) (jHeads P T hs n) = 0 := by
    intro n
    induction n with
    | zero => intro _; rfl
    | succ n ih =>
      intro hn
      rw [jHeads, capJ_append, ih (by omega), capJ_zero]
      · rfl
      · intro j hj hf
        exfalso
        have hf' : j.f = P * (T + 1) := by simpa using hf
        obtain ⟨t, ht, rfl⟩ := List.mem_map.1 hj
        have h9 := hh n (by omega)
        unfold HdOk at h9
        have := nd_lt (P := P) (T := T) (t := t) (p := (hs.getD n Hd.zero).fr.toNat) (by have := List.mem_range.1 ht; omega) (by omega)
        have e : (jHead P (hs.getD n Hd.zero) t).f = nd P t (hs.getD n Hd.zero).fr.toNat := rfl
        omega
  unfold jAll
  rw [capJ_append, h2 _ (Nat.le_refl _)]
  have := h1 P (Nat.le_refl _)
  omega
end
/-- A net that is laid. -/
def layT (P T : Nat) (pe xs : List Int) (hs : List Hd) : Tab := joins (jAll P T pe xs hs)
def layN (P T : Nat) (pe xs : List Int) (hs : List Hd) : Net := (layT P T pe xs hs).net (P * (T + 1) + 2)
structure LayOk (P T : Nat) (pe xs : List Int) (hs : List Hd) : Prop where
  wf : (layN P T pe xs hs).Wf
  ok : Ok (layN P T pe xs hs) (layT P T pe xs hs).room 2199023255552
  cap : ∀ S, resid (layN P T pe xs hs) (layT P T pe xs hs).room S = capJ S (jAll P T pe xs hs)
  beg : resid (layN P T pe xs hs) (layT P T pe xs hs).room (fun v => decide (v = P * (T + 1))) ≤ 1000 * P
theorem hds_wide {P : Int} {ps : List Psg} {xs : List Int} {out : Int} (h : StV P ps xs) : ∀ i, i < (hds out xs ps).length → 1 ≤ ((hds out xs ps).getD i Hd.zero).wide ∧ ((hds out xs ps).getD i Hd.zero).wide ≤ 50 := by
  have key : ∀ n, n ≤ ps.length → ∀ x ∈ hdsTo out xs ps n, 1 ≤ x.wide ∧ x.wide ≤ 50 := by
    intro n
    induction n with
    | zero => intro _ x hx; cases hx
    | succ n ih =>
      intro hn x hx
      rcases List.mem_append.1 hx with hx | hx
      · exact ih (by omega) x hx
      · have hp := psgOk_iff.1 (h.pas n (by omega))
        unfold hdsOf hdsA hdsB at hx
        split at hx
        · cases hx
        · rcases List.mem_append.1 hx with hx | hx
          · split at hx
            · cases hx
            · rw [List.mem_singleton.1 hx]; dsimp only; omega
          · split at hx
            · rw [List.mem_singleton.1 hx]; dsimp only; omega
            · cases hx
  intro i hi
  rw [List.getD_eq_getElem?_getD, List.getElem?_eq_getElem hi]
  exact key _ (Nat.le_refl _) _ (List.getElem_mem hi)
theorem lay_ok {P T : Nat} {ps : List Psg} {pe xs : List Int} {out : Int} (h : StV P ps xs) (hpe : ∀ k, k < pe.length → 0 ≤ pe.getD k 0 ∧ pe.getD k 0 ≤ 1000) : LayOk P T pe xs (hds out xs ps) := by
  obtain ⟨W, O, hr⟩ := joins_net (k := P * (T + 1) + 2) (B := 2199023255552) (by omega) (jAll P T pe xs (hds out xs ps)) (by
    intro j hj
    have h1 : JOk P T j ∧ JRoom 1099511627776 j := by
      rcases List.mem_append.1 hj with hj | hj
      · exact ⟨jPlaces_ok (Nat.le_refl _) j hj, places_room hpe P j hj⟩
      · exact ⟨jHeads_ok (hds_ok h) (Nat.le_refl _) j hj, heads_room (hds_wide h) (Nat.le_refl _) j hj⟩
    obtain ⟨⟨a1, a2, a3⟩, a4, a5⟩ := h1
    exact ⟨a1, a2, a3, a4, by omega⟩)
  exact ⟨W, O, hr, Int.le_trans (Int.le_of_eq (hr _)) (cap_begin hpe (hds_ok h))⟩

/-- A flow that is full: v come out; L: what can still be reached. -/
structure EndP (P T : Nat) (pe xs : List Int) (hs : List Hd) (v : Int) (r : RM) (L : Nat → Int) : Prop where
  fl : Fl (layN P T pe xs hs) (layT P T pe xs hs).room r (P * (T + 1)) (P * (T + 1) + 1) v
  nn : 0 ≤ v
  lev : LevOk (layN P T pe xs hs) r (P * (T + 1)) L
  full : L (P * (T + 1) + 1) < 0

/-- The first number below n for which something holds; n: none. -/
def fstB (f : Nat → Bool) : Nat → Nat
  | 0 => 0
  | n + 1 => if fstB f n < n then fstB f n else if f n = true then n else n + 1
theorem fst_le {f : Nat → Bool} : ∀ n, fstB f n ≤ n := by
  intro n
  induction n with
  | zero => exact Nat.le_refl _
  | succ n ih => rw [fstB]; split; omega; split <;> omega
theorem fst_none {f : Nat → Bool} : ∀ {n}, (∀ q, q < n → f q = false) → fstB f n = n := by
  intro n
  induction n with
  | zero => intro _; rfl
  | succ n ih => intro h; rw [fstB, ih (fun q hq => h q (by omega)), if_neg (by omega), if_neg (by rw [h n (by omega)]; simp)]
theorem fst_at {f : Nat → Bool} {t : Nat} (h1 : ∀ q, q < t → f q = false) (h2 : f t = true) : ∀ {n}, t < n → fstB f n = t := by
  intro n
  induction n with
  | zero => intro h; omega
  | succ n ih =>
    intro h
    by_cases e : t = n
    · subst e; rw [fstB, fst_none h1, if_neg (by omega), if_pos h2]
    · rw [fstB, ih (by omega), if_pos (by omega)]
def cutAt (P T : Nat) (L : Nat → Int) (p : Nat) : Nat := fstB (fun t => decide (0 ≤ L (nd P t p))) (T + 1)
def sumI (l : List Int) : Nat → Int := sm (fun k => l.getD k 0)
end Go.Proofs.Ytopmadlgolnmfaa

namespace Go.Proofs.Ytopmadlgolnmfaa
set_option linter.unusedVariables false
set_option linter.unusedSimpArgs false

theorem resid_zero {N : Net} {r : RM} {S : Nat → Bool} (hn : ∀ i, i < N.k → ∀ j, j < N.n i → 0 ≤ r i j) (h : resid N r S = 0) : ∀ u, u < N.k → S u = true → ∀ j, j < N.n u → 0 < r u j → S (N.to u j) = true := by
  intro u hu hS j hj hr
  have h1 := sm_eq_zero (f := fun i => sm (fun j => if S i = true ∧ S (N.to i j) = false then r i j else 0) (N.n i)) (fun i hi => sm_nonneg fun j hj => by split; exact hn i hi j hj; exact Int.le_refl _) h u hu
  have h2 := sm_eq_zero (f := fun j => if S u = true ∧ S (N.to u j) = false then r u j else 0) (fun j hj => by split; exact hn u hu j hj; exact Int.le_refl _) h1 j hj
  cases hs : S (N.to u j) with
  | true => rfl
  | false =>
    skip
    rw [if_pos ⟨hS, hs⟩] at h2
    omega
def reached (L : Nat → Int) (v : Nat) : Bool := decide (0 ≤ L v)
section
variable {P T : Nat} {pe xs : List Int} {hs : List Hd} {v v' : Int} {r r' : RM} {L L' : Nat → Int}
theorem ind_cut {S : Nat → Bool} (hb : S (P * (T + 1)) = true) (hx : S (P * (T + 1) + 1) = false) : ind S (P * (T + 1)) - ind S (P * (T + 1) + 1) = 1 := by
  unfold ind; rw [hb, hx]; rfl
/-- No set between the beginning and the outside takes less. -/
theorem EndP.bound (O : LayOk P T pe xs hs) (h : EndP P T pe xs hs v r L) {S : Nat → Bool} (hb : S (P * (T + 1)) = true) (hx : S (P * (T + 1) + 1) = false) : v ≤ capJ S (jAll P T pe xs hs) := by
  have h1 := resid_nn (S := S) (h.fl.ok O.ok)
  rw [h.fl.cut, O.cap, ind_cut hb hx] at h1
  omega
theorem EndP.at_reach (O : LayOk P T pe xs hs) (h : EndP P T pe xs hs v r L) : reached L (P * (T + 1)) = true ∧ reached L (P * (T + 1) + 1) = false ∧ capJ (reached L) (jAll P T pe xs hs) = v := by
  have hb : reached L (P * (T + 1)) = true := by unfold reached; rw [h.lev.b0]; rfl
  have hx : reached L (P * (T + 1) + 1) = false := by unfold reached; rw [decide_eq_false_iff_not]; have := h.full; omega
  refine ⟨hb, hx, ?_⟩
  have h0 : resid (layN P T pe xs hs) r (reached L) = 0 := sm_zero fun i hi => sm_zero fun j hj => by
    split
    · rename_i hc
      obtain ⟨h1, h2⟩ := hc
      unfold reached at h1 h2
      simp only [decide_eq_true_eq, decide_eq_false_iff_not] at h1 h2
      have h3 := h.fl.nn i hi j hj
      by_cases h4 : 0 < r i j
      · exact absurd (h.lev.cl i hi h1 j hj h4) h2
      · omega
    · rfl
  rw [h.fl.cut, O.cap, ind_cut hb hx] at h0
  omega
theorem EndP.unique (O : LayOk P T pe xs hs) (h : EndP P T pe xs hs v r L) (h' : EndP P T pe xs hs v' r' L') : v = v' := by
  obtain ⟨a1, a2, a3⟩ := h.at_reach O
  obtain ⟨b1, b2, b3⟩ := h'.at_reach O
  have h1 := h.bound O b1 b2
  have h2 := h'.bound O a1 a2
  omega
/-- A set that takes just what comes out holds all that can be reached. -/
theorem EndP.inside (O : LayOk P T pe xs hs) (h : EndP P T pe xs hs v r L) {S : Nat → Bool} (hb : S (P * (T + 1)) = true) (hx : S (P * (T + 1) + 1) = false) (hc : capJ S (jAll P T pe xs hs) = v) : ∀ u, u < P * (T + 1) + 2 → 0 ≤ L u → S u = true := by
  have h0 : resid (layN P T pe xs hs) r S = 0 := by rw [h.fl.cut, O.cap, ind_cut hb hx]; omega
  exact h.lev.least hb (resid_zero h.fl.nn h0)
theorem EndP.same (O : LayOk P T pe xs hs) (h : EndP P T pe xs hs v r L) (h' : EndP P T pe xs hs v' r' L') : ∀ u, u < P * (T + 1) + 2 → reached L u = reached L' u := by
  have e := h.unique O h'
  obtain ⟨a1, a2, a3⟩ := h.at_reach O
  obtain ⟨b1, b2, b3⟩ := h'.at_reach O
  intro u hu
  have h1 := h.inside O b1 b2 (by omega) u hu
  have h2 := h'.inside O a1 a2 (by omega) u hu
  unfold reached at h1 h2 ⊢
  exact decide_eq_decide.2 ⟨fun h => of_decide_eq_true (h1 h), fun h => of_decide_eq_true (h2 h)⟩
theorem EndP.cut_same (O : LayOk P T pe xs hs) (h : EndP P T pe xs hs v r L) (h' : EndP P T pe xs hs v' r' L') {p : Nat} (hp : p < P) : cutAt P T L p = cutAt P T L' p := by
  have key : ∀ n, n ≤ T + 1 → fstB (fun t => decide (0 ≤ L (nd P t p))) n = fstB (fun t => decide (0 ≤ L' (nd P t p))) n := by
    intro n
    induction n with
    | zero => intro _; rfl
    | succ n ih =>
      intro hn
      rw [fstB, fstB, ih (by omega)]
      have := h.same O h' (nd P n p) (by have := nd_lt (P := P) (T := T) (t := n) (p := p) (by omega) hp; omega)
      unfold reached at this
      rw [this]
  exact key _ (Nat.le_refl _)
end
open Classical in
/-- How many can be out, and the least barrier. -/
noncomputable def mfv (P T : Nat) (pe xs : List Int) (hs : List Hd) : Int := if h : ∃ v, ∃ r L, EndP P T pe xs hs v r L then Classical.choose h else 0
open Classical in
noncomputable def mfc (P T : Nat) (pe xs : List Int) (hs : List Hd) (p : Nat) : Nat := if h : ∃ L, ∃ v r, EndP P T pe xs hs v r L then cutAt P T (Classical.choose h) p else 0
section
variable {P T : Nat} {pe xs : List Int} {hs : List Hd} {v : Int} {r : RM} {L : Nat → Int}
theorem mfv_eq (O : LayOk P T pe xs hs) (h : EndP P T pe xs hs v r L) : mfv P T pe xs hs = v := by
  have he : ∃ v, ∃ r L, EndP P T pe xs hs v r L := ⟨v, r, L, h⟩
  unfold mfv
  rw [dif_pos he]
  obtain ⟨r', L', h'⟩ := Classical.choose_spec he
  exact h'.unique O h
theorem mfc_eq (O : LayOk P T pe xs hs) (h : EndP P T pe xs hs v r L) {p : Nat} (hp : p < P) : mfc P T pe xs hs p = cutAt P T L p := by
  have he : ∃ L, ∃ v r, EndP P T pe xs hs v r L := ⟨L, v, r, h⟩
  unfold mfc
  rw [dif_pos he]
  obtain ⟨v', r', h'⟩ := Classical.choose_spec he
  exact h'.cut_same O h hp
end
end Go.Proofs.Ytopmadlgolnmfaa

namespace Go.Proofs.Ytopmadlgolnmfaa
set_option linter.unusedVariables false
set_option linter.unusedSimpArgs false

/-- Whether a passage can be gone without steps. -/
def opn (out : Int) (help : Bool) (p : Psg) : Bool := (decide (p.kind = 1) || (decide (p.kind = 4) && decide (bitI out p.mach = 0))) || (decide (p.kind = 5) && help)
theorem opn_t {out : Int} {help : Bool} {p : Psg} (h : (p.kind = 1 ∨ p.kind = 4 ∧ out / 2 ^ p.mach.toNat % 2 = 0) ∨ p.kind = 5 ∧ help = true) : opn out help p = true := by
  unfold opn bitI
  simp only [Bool.or_eq_true, Bool.and_eq_true, decide_eq_true_eq]
  exact h
theorem opn_f {out : Int} {help : Bool} {p : Psg} (h : (¬p.kind = 1 ∧ (¬p.kind = 4 ∨ ¬out / 2 ^ p.mach.toNat % 2 = 0)) ∧ (¬p.kind = 5 ∨ help = false)) : opn out help p = false := by
  unfold opn bitI
  simp only [Bool.or_eq_false_iff, Bool.and_eq_false_iff, decide_eq_false_iff_not]
  exact h
/-- The other end of a passage. -/
def othr (p : Psg) (a : Int) : Int := if p.a = a then p.b else if p.b = a then p.a else -1
/-- The other end of a passage that can be gone without steps. -/
def oth (out : Int) (help : Bool) (p : Psg) (a : Int) : Int := if opn out help p = false then -1 else othr p a
/-- A way without steps: from, to, ticks, passages. -/
inductive Wk (ps : List Psg) (out : Int) (help : Bool) : Nat → Nat → Nat → List Nat → Prop
  | nil (a : Nat) : Wk ps out help a a 0 []
  | cons {a b c n k : Nat} {l : List Nat} (hk : k < ps.length) (ho : oth out help (ps.getD k Psg.zero) a = (b : Int)) (h : Wk ps out help b c n l) : Wk ps out help a c ((ps.getD k Psg.zero).ticks.toNat + n) (k :: l)
/-- What of a station the ways look at. -/
def PsV (P : Nat) (ps : List Psg) : Prop := ∀ k, k < ps.length → (0 ≤ (ps.getD k Psg.zero).a ∧ (ps.getD k Psg.zero).a < P) ∧ (0 ≤ (ps.getD k Psg.zero).b ∧ (ps.getD k Psg.zero).b < P) ∧ 1 ≤ (ps.getD k Psg.zero).ticks ∧ (ps.getD k Psg.zero).ticks ≤ 20
theorem StV.psv {P : Nat} {ps : List Psg} {xs : List Int} (h : StV P ps xs) : PsV P ps := fun k hk => by
  have := psgOk_iff.1 (h.pas k hk)
  omega
theorem oth_in {P : Nat} {ps : List Psg} (V : PsV P ps) {out : Int} {help : Bool} {k : Nat} (hk : k < ps.length) {a : Int} (h : 0 ≤ oth out help (ps.getD k Psg.zero) a) : opn out help (ps.getD k Psg.zero) = true ∧ oth out help (ps.getD k Psg.zero) a < P ∧ ((ps.getD k Psg.zero).a = a ∧ oth out help (ps.getD k Psg.zero) a = (ps.getD k Psg.zero).b ∨ (ps.getD k Psg.zero).b = a ∧ oth out help (ps.getD k Psg.zero) a = (ps.getD k Psg.zero).a) := by
  have := V k hk
  unfold oth othr at h ⊢
  split at h
  · omega
  · rename_i h1
    refine ⟨by simpa using h1, ?_⟩
    rw [if_neg h1]
    split at h
    · rename_i h2; rw [if_pos h2]; exact ⟨by omega, .inl ⟨h2, rfl⟩⟩
    · rename_i h2
      rw [if_neg h2]
      split at h
      · rename_i h3; rw [if_pos h3]; exact ⟨by omega, .inr ⟨h3, rfl⟩⟩
      · omega
/-- One step along a passage makes nothing shorter. -/
def FixAt (ps : List Psg) (out : Int) (help : Bool) (tk : Nat → Int) (i k : Nat) : Prop := ∀ b : Nat, oth out help (ps.getD k Psg.zero) i = (b : Int) → 0 ≤ tk b → 0 ≤ tk i ∧ tk i ≤ tk b + (ps.getD k Psg.zero).ticks
def potF (P : Nat) (tk : Nat → Int) : Int := sm (fun i => if tk i < 0 then 1000 else tk i) P
def cntF (P : Nat) (tk : Nat → Int) : Int := sm (fun i => if tk i < 0 then 0 else 1) P
/-- A table under way. -/
structure FarI (P : Nat) (ps : List Psg) (out : Int) (help : Bool) (to : Nat) (tk : Nat → Int) : Prop where
  to0 : tk to = 0
  low : ∀ i, -1 ≤ tk i
  walk : ∀ i, i < P → 0 ≤ tk i → ∃ l, Wk ps out help i to (tk i).toNat l
  bd : ∀ i, i < P → tk i ≤ 20 * (cntF P tk - 1)
theorem cntF_le {P : Nat} {tk : Nat → Int} : cntF P tk ≤ P := by
  unfold cntF
  induction P with
  | zero => exact Int.le_refl 0
  | succ n ih => rw [sm]; split <;> omega
theorem potF_nn {P : Nat} {tk : Nat → Int} : 0 ≤ potF P tk := sm_nonneg fun i _ => by split <;> omega
def tk0 (to : Nat) (i : Nat) : Int := if i = to then 0 else -1
section
variable {P : Nat} {ps : List Psg} {out : Int} {help : Bool} {to : Nat} {tk : Nat → Int}
theorem FarI.init (hto : to < P) : FarI P ps out help to (tk0 to) := by
  have h1 : tk0 to to = 0 := by unfold tk0; rw [if_pos rfl]
  have hc : 1 ≤ cntF P (tk0 to) := by
    have := sm_mem (f := fun i => if tk0 to i < 0 then 0 else 1) (fun i _ => by split <;> omega) hto
    rw [h1] at this
    exact this
  refine ⟨h1, fun i => ?_, fun i _ h0 => ?_, fun i _ => ?_⟩
  · unfold tk0; split <;> omega
  · unfold tk0 at h0 ⊢
    split at h0
    · rename_i e; subst e; rw [if_pos rfl]; exact ⟨_, Wk.nil _⟩
    · omega
  · unfold tk0 at hc ⊢; split <;> omega
theorem FarI.small (I : FarI P ps out help to tk) (hP : P ≤ 10) {i : Nat} (hi : i < P) : tk i ≤ 180 := by
  have := I.bd i hi
  have := cntF_le (P := P) (tk := tk)
  omega
theorem FarI.relax (I : FarI P ps out help to tk) (V : PsV P ps) {i b k : Nat} (hi : i < P) (hb : b < P) (hk : k < ps.length) (ho : oth out help (ps.getD k Psg.zero) i = (b : Int)) (h0 : 0 ≤ tk b) (hl : tk i < 0 ∨ tk b + (ps.getD k Psg.zero).ticks < tk i) :
    FarI P ps out help to (upd tk i (tk b + (ps.getD k Psg.zero).ticks)) ∧ potF P (upd tk i (tk b + (ps.getD k Psg.zero).ticks)) + 1 ≤ potF P tk ∨ 900 < tk b + (ps.getD k Psg.zero).ticks := by
  by_cases hbig : 900 < tk b + (ps.getD k Psg.zero).ticks
  · exact .inr hbig
  refine .inl ?_
  have ht : 1 ≤ (ps.getD k Psg.zero).ticks ∧ (ps.getD k Psg.zero).ticks ≤ 20 := (V k hk).2.2
  have hti : i ≠ to := fun e => by subst e; have := I.to0; omega
  have hbi : b ≠ i := fun e => by subst e; omega
  have hc : cntF P (upd tk i (tk b + (ps.getD k Psg.zero).ticks)) = cntF P tk + (if tk i < 0 then 1 else 0) := by
    unfold cntF
    rw [sm_upd (f := fun i => if tk i < 0 then 0 else 1) hi (fun j _ hj => by rw [upd_ne _ _ hj]), upd_same, if_neg (by omega)]
    split <;> omega
  refine ⟨⟨by rw [upd_ne _ _ (fun e => hti e.symm)]; exact I.to0, fun j => ?_, fun j hj h => ?_, fun j hj => ?_⟩, ?_⟩
  · by_cases e : j = i
    · subst e; rw [upd_same]; omega
    · rw [upd_ne _ _ e]; exact I.low j
  · by_cases e : j = i
    · subst e
      rw [upd_same]
      obtain ⟨l, hw⟩ := I.walk b hb h0
      have := Wk.cons hk ho hw
      rw [show (tk b + (ps.getD k Psg.zero).ticks).toNat = (ps.getD k Psg.zero).ticks.toNat + (tk b).toNat by  omega]
      exact ⟨_, this⟩
    · rw [upd_ne _ _ e] at h ⊢; exact I.walk j hj h
  · rw [hc]
    have hbb := I.bd b hb
    by_cases e : j = i
    · subst e
      rw [upd_same]
      have := I.bd j hj
      split <;> omega
    · rw [upd_ne _ _ e]; have := I.bd j hj; split <;> omega
  · unfold potF
    rw [sm_upd (f := fun i => if tk i < 0 then 1000 else tk i) hi (fun j _ hj => by rw [upd_ne _ _ hj]), upd_same, if_neg (by omega)]
    split <;> omega
theorem FarI.step (I : FarI P ps out help to tk) (V : PsV P ps) (hP : P ≤ 10) {i b k : Nat} (hi : i < P) (hb : b < P) (hk : k < ps.length) (ho : oth out help (ps.getD k Psg.zero) i = (b : Int)) (h0 : 0 ≤ tk b) (hl : tk i < 0 ∨ tk b + (ps.getD k Psg.zero).ticks < tk i) :
    FarI P ps out help to (upd tk i (tk b + (ps.getD k Psg.zero).ticks)) ∧ potF P (upd tk i (tk b + (ps.getD k Psg.zero).ticks)) + 1 ≤ potF P tk := by
  rcases I.relax V hi hb hk ho h0 hl with h | h
  · exact h
  · exfalso
    have := I.small hP hb
    have : (ps.getD k Psg.zero).ticks ≤ 20 := (V k hk).2.2.2
    omega
end
theorem fixAt_of {ps : List Psg} {out : Int} {help : Bool} {tk : Nat → Int} {i k : Nat} (h : oth out help (ps.getD k Psg.zero) i < 0 ∨ tk (oth out help (ps.getD k Psg.zero) i).toNat < 0 ∨ (0 ≤ tk i ∧ tk i ≤ tk (oth out help (ps.getD k Psg.zero) i).toNat + (ps.getD k Psg.zero).ticks)) : FixAt ps out help tk i k := fun b hb h0 => by
  rw [hb, Int.toNat_natCast] at h
  omega
def b2i (b : Bool) : Int := if b = true then 1 else 0
theorem fx_next {P : Nat} {ps : List Psg} {out : Int} {help : Bool} {tk : Nat → Int} {m : Bool} {f k : Nat} (h : m = false → (∀ i, i < f → ∀ k, k < ps.length → FixAt ps out help tk i k) ∧ ∀ q, q < k → FixAt ps out help tk f q) (hk : FixAt ps out help tk f k) :
    m = false → (∀ i, i < f → ∀ k, k < ps.length → FixAt ps out help tk i k) ∧ ∀ q, q < k + 1 → FixAt ps out help tk f q := fun e => ⟨(h e).1, fun q hq => by
  by_cases e2 : q = k
  · subst e2; exact hk
  · exact (h e).2 q (by omega)⟩
theorem fx_row {P : Nat} {ps : List Psg} {out : Int} {help : Bool} {tk : Nat → Int} {m : Bool} {f k : Nat} (hk : ps.length ≤ k) (h : m = false → (∀ i, i < f → ∀ k, k < ps.length → FixAt ps out help tk i k) ∧ ∀ q, q < k → FixAt ps out help tk f q) :
    m = false → ∀ i, i < f + 1 → ∀ k, k < ps.length → FixAt ps out help tk i k := fun e i hi q hq => by
  by_cases e2 : i = f
  · subst e2; exact (h e).2 q (by omega)
  · exact (h e).1 i (by omega) q hq
theorem FarI.up {P : Nat} {ps : List Psg} {out : Int} {help : Bool} {to : Nat} {tk : Nat → Int} (I : FarI P ps out help to tk) (V : PsV P ps) (hP : P ≤ 10) {i k : Nat} {X : Int} {m : Bool} {Q : Prop} (hi : i < P) (hk : k < ps.length) (ho : 0 ≤ oth out help (ps.getD k Psg.zero) i) (hb : oth out help (ps.getD k Psg.zero) i < P) (h0 : 0 ≤ tk (oth out help (ps.getD k Psg.zero) i).toNat)
    (hl : tk i < 0 ∨ tk (oth out help (ps.getD k Psg.zero) i).toNat + (ps.getD k Psg.zero).ticks < tk i) (hp : potF P tk + b2i m ≤ X) :
    FarI P ps out help to (upd tk i (tk (oth out help (ps.getD k Psg.zero) i).toNat + (ps.getD k Psg.zero).ticks)) ∧ potF P (upd tk i (tk (oth out help (ps.getD k Psg.zero) i).toNat + (ps.getD k Psg.zero).ticks)) + b2i true ≤ X ∧ (true = false → Q) := by
  have h := I.step V hP hi (b := (oth out help (ps.getD k Psg.zero) i).toNat) (by omega) hk (by omega) h0 hl
  have h8 : b2i true = 1 := rfl
  have h9 : 0 ≤ b2i m := by unfold b2i; split <;> omega
  exact ⟨h.1, by omega, fun e => by cases e⟩
/-- A table of how far it is. -/
structure FarOk (P : Nat) (ps : List Psg) (out : Int) (help : Bool) (to : Nat) (tk : Nat → Int) : Prop where
  to0 : tk to = 0
  low : ∀ i, -1 ≤ tk i
  walk : ∀ i, i < P → 0 ≤ tk i → ∃ l, Wk ps out help i to (tk i).toNat l
  fix : ∀ i, i < P → ∀ k, k < ps.length → FixAt ps out help tk i k
  sml : ∀ i, i < P → tk i ≤ 200
section
variable {P : Nat} {ps : List Psg} {out : Int} {help : Bool} {to : Nat} {tk tk' : Nat → Int}
theorem FarI.done (I : FarI P ps out help to tk) (hP : P ≤ 10) (h : ∀ i, i < P → ∀ k, k < ps.length → FixAt ps out help tk i k) : FarOk P ps out help to tk :=
  ⟨I.to0, I.low, I.walk, h, fun i hi => by have := I.small hP hi; omega⟩
theorem FarOk.least (h : FarOk P ps out help to tk) (V : PsV P ps) {a c n : Nat} {l : List Nat} (W : Wk ps out help a c n l) : a < P → c = to → 0 ≤ tk a ∧ tk a ≤ n := by
  induction W with
  | nil a => intro _ e; subst e; rw [h.to0]; exact ⟨Int.le_refl 0, Int.le_refl 0⟩
  | @cons a b c n k l hk ho _ ih =>
    intro ha e
    have hb := (oth_in V hk (a := (a : Int)) (by rw [ho]; omega)).2.1
    rw [ho] at hb
    have h1 := ih (by omega) e
    have h2 := h.fix a ha k hk b ho h1.1
    have := (V k hk).2.2
    omega
theorem FarOk.unique (h : FarOk P ps out help to tk) (h' : FarOk P ps out help to tk') (V : PsV P ps) {i : Nat} (hi : i < P) : tk i = tk' i := by
  have key : ∀ {t t' : Nat → Int}, FarOk P ps out help to t → FarOk P ps out help to t' → 0 ≤ t i → 0 ≤ t' i ∧ t' i ≤ t i := fun {t t'} H H' h0 => by
    obtain ⟨l, W⟩ := H.walk i hi h0
    have := H'.least V W hi rfl
    omega
  have l1 := h.low i
  have l2 := h'.low i
  by_cases h0 : 0 ≤ tk i
  · have h1 := key h h' h0
    have h2 := key h' h h1.1
    omega
  · by_cases h1 : 0 ≤ tk' i
    · have := key h' h h1; omega
    · omega
end
open Classical in
/-- How far it is to a place; below 0: there is no way. -/
noncomputable def dst (P : Nat) (ps : List Psg) (out : Int) (help : Bool) (to : Nat) (i : Nat) : Int := if h : ∃ tk, FarOk P ps out help to tk then (if i < P then Classical.choose h i else -1) else 0
section
variable {P : Nat} {ps : List Psg} {out : Int} {help : Bool} {to : Nat} {tk : Nat → Int}
theorem dst_eq (V : PsV P ps) (h : FarOk P ps out help to tk) {i : Nat} (hi : i < P) : dst P ps out help to i = tk i := by
  have he : ∃ tk, FarOk P ps out help to tk := ⟨tk, h⟩
  unfold dst
  rw [dif_pos he, if_pos hi]
  exact (Classical.choose_spec he).unique h V hi
theorem dst_ok (V : PsV P ps) (hto : to < P) (h : FarOk P ps out help to tk) : FarOk P ps out help to (dst P ps out help to) := by
  have he : ∃ tk, FarOk P ps out help to tk := ⟨tk, h⟩
  have hd : ∀ i, ¬ i < P → dst P ps out help to i = -1 := fun i hi => by unfold dst; rw [dif_pos he, if_neg hi]
  refine ⟨(dst_eq V h hto).trans h.to0, fun i => ?_, fun i hi => ?_, fun i hi k hk b hb h0 => ?_, fun i hi => ?_⟩
  · by_cases hi : i < P
    · rw [dst_eq V h hi]; exact h.low i
    · rw [hd i hi]; omega
  · rw [dst_eq V h hi]; exact h.walk i hi
  · have hb2 := (oth_in V hk (a := (i : Int)) (by rw [hb]; omega)).2.1
    rw [hb] at hb2
    rw [dst_eq V h (i := b) (by omega)] at h0 ⊢
    rw [dst_eq V h hi]
    exact h.fix i hi k hk b hb h0
  · rw [dst_eq V h hi]; exact h.sml i hi
end
/-- The passage that a first way goes along next. -/
def stepB (ps : List Psg) (out : Int) (help : Bool) (d : Nat → Int) (at_ k : Nat) : Bool :=
  decide (0 ≤ oth out help (ps.getD k Psg.zero) at_) && (decide (0 ≤ d (oth out help (ps.getD k Psg.zero) at_).toNat) && decide (d (oth out help (ps.getD k Psg.zero) at_).toNat + (ps.getD k Psg.zero).ticks = d at_))
def stepK (ps : List Psg) (out : Int) (help : Bool) (d : Nat → Int) (at_ : Nat) : Nat := fstB (stepB ps out help d at_) ps.length
def wayG (ps : List Psg) (out : Int) (help : Bool) (d : Nat → Int) (to : Nat) : Nat → Nat → List Nat
  | 0, _ => []
  | g + 1, a => if a = to then [] else stepK ps out help d a :: wayG ps out help d to g (oth out help (ps.getD (stepK ps out help d a) Psg.zero) a).toNat
section
variable {P : Nat} {ps : List Psg} {out : Int} {help : Bool} {to : Nat} {d : Nat → Int}
theorem wayG_to {g : Nat} : wayG ps out help d to g to = [] := by
  cases g with
  | zero => rfl
  | succ g => unfold wayG; rw [if_pos rfl]
theorem step_at {a k : Nat} (h1 : ∀ q, q < k → stepB ps out help d a q = false) (h2 : stepB ps out help d a k = true) (hk : k < ps.length) : stepK ps out help d a = k := fst_at h1 h2 hk
theorem step_of (V : PsV P ps) {a k : Nat} (hk : k < ps.length) (h : stepB ps out help d a k = true) : ∃ b : Nat, oth out help (ps.getD k Psg.zero) a = (b : Int) ∧ b < P ∧ 0 ≤ d b ∧ d b + (ps.getD k Psg.zero).ticks = d a ∧ 1 ≤ (ps.getD k Psg.zero).ticks := by
  unfold stepB at h
  simp only [Bool.and_eq_true, decide_eq_true_eq] at h
  have h1 := oth_in V hk h.1
  have hV := (V k hk).2.2
  exact ⟨(oth out help (ps.getD k Psg.zero) a).toNat, by omega, by omega, h.2.1, h.2.2, hV.1⟩
theorem FarOk.step_ex (h : FarOk P ps out help to d) (V : PsV P ps) {a : Nat} (ha : a < P) (h0 : 0 ≤ d a) (hne : a ≠ to) : ∃ k, k < ps.length ∧ stepB ps out help d a k = true := by
  obtain ⟨l, W⟩ := h.walk a ha h0
  generalize hn : (d a).toNat = n at W
  cases W with
  | nil => exact absurd rfl hne
  | @cons _ b _ n2 k l2 hk ho W2 =>
    have hb := (oth_in V hk (a := (a : Int)) (by rw [ho]; omega)).2.1
    rw [ho] at hb
    have h1 := h.least V W2 (by omega) rfl
    have h2 := h.fix a ha k hk b ho h1.1
    have := (V k hk).2.2
    refine ⟨k, hk, ?_⟩
    unfold stepB
    simp only [Bool.and_eq_true, decide_eq_true_eq]
    rw [ho, Int.toNat_natCast]
    omega
theorem FarOk.stp (h : FarOk P ps out help to d) (V : PsV P ps) {a : Nat} (ha : a < P) (h0 : 0 ≤ d a) (hne : a ≠ to) : stepK ps out help d a < ps.length ∧ stepB ps out help d a (stepK ps out help d a) = true ∧ ∀ q, q < stepK ps out help d a → stepB ps out help d a q = false := by
  obtain ⟨k, hk, hs⟩ := h.step_ex V ha h0 hne
  have key : ∀ n, (∃ k, k < n ∧ stepB ps out help d a k = true) → fstB (stepB ps out help d a) n < n ∧ stepB ps out help d a (fstB (stepB ps out help d a) n) = true ∧ ∀ q, q < fstB (stepB ps out help d a) n → stepB ps out help d a q = false := by
    intro n
    induction n with
    | zero => rintro ⟨k, hk, _⟩; omega
    | succ n ih =>
      rintro ⟨k, hk, hs⟩
      by_cases he : ∃ k, k < n ∧ stepB ps out help d a k = true
      · obtain ⟨h1, h2, h3⟩ := ih he
        rw [fstB, if_pos h1]
        exact ⟨by omega, h2, h3⟩
      · have hno : ∀ q, q < n → stepB ps out help d a q = false := fun q hq => by
          cases hb : stepB ps out help d a q with
          | false => rfl
          | true => exact absurd ⟨q, hq, hb⟩ he
        have hkn : k = n := by
          by_cases e : k < n
          · exact absurd ⟨k, e, hs⟩ he
          · omega
        subst hkn
        rw [fstB, fst_none hno, if_neg (by omega), if_pos hs]
        exact ⟨by omega, hs, hno⟩
  exact key _ ⟨k, hk, hs⟩
theorem wayG_step {a k g : Nat} (hne : a ≠ to) (h : stepK ps out help d a = k) : wayG ps out help d to (g + 1) a = k :: wayG ps out help d to g (oth out help (ps.getD k Psg.zero) a).toNat := by
  rw [wayG, if_neg hne, h]
end
/-- The first way. -/
noncomputable def wayL (P : Nat) (ps : List Psg) (out : Int) (help : Bool) (fr to : Nat) : List Nat := wayG ps out help (dst P ps out help to) to (dst P ps out help to fr).toNat fr
/-- Whether numbers are places. -/
def plOk (P : Int) (l : List Int) : Bool := allN (fun k => decide (0 ≤ l.getD k 0 ∧ l.getD k 0 ≤ P - 1)) l.length
/-- The error of a station, a set of machines and places. -/
def askE (P : Int) (ps : List Psg) (xs : List Int) (out : Int) (l : List Int) : Int :=
  if stE P ps xs ≠ 0 then stE P ps xs else if (decide (0 ≤ out ∧ out ≤ 4095) && plOk P l) = true then 0 else 1
theorem askE_ok {P : Int} {ps : List Psg} {xs : List Int} {out : Int} {l : List Int} (h : askE P ps xs out l = 0) : stE P ps xs = 0 ∧ (0 ≤ out ∧ out ≤ 4095) ∧ ∀ k, k < l.length → 0 ≤ l.getD k 0 ∧ l.getD k 0 ≤ P - 1 := by
  unfold askE at h
  split at h
  · omega
  · rename_i h1
    split at h
    · rename_i h2
      simp only [Bool.and_eq_true, decide_eq_true_eq] at h2
      refine ⟨by omega, h2.1, fun k hk => ?_⟩
      have := allN_iff.1 h2.2 k hk
      simpa using this
    · cases h
theorem plOk_false {P : Int} {l : List Int} {k : Nat} (hk : k < l.length) (h : ¬ (0 ≤ l.getD k 0 ∧ l.getD k 0 ≤ P - 1)) : plOk P l = false := allN_false hk (decide_eq_false h)
theorem wayG_len {ps : List Psg} {out : Int} {help : Bool} {d : Nat → Int} {to : Nat} : ∀ g a, (wayG ps out help d to g a).length ≤ g := by
  intro g
  induction g with
  | zero => intro a; exact Nat.le_refl 0
  | succ g ih => intro a; unfold wayG; split; exact Nat.zero_le _; simp only [List.length_cons]; have := ih (oth out help (ps.getD (stepK ps out help d a) Psg.zero) a).toNat; omega
/-- A list of numbers, as it lies in memory. -/
def wcl (l : List Nat) (k _j : Nat) : Value := .int .i64 ((l.getD k 0 : Nat) : Int)
theorem wcl_snoc {l : List Nat} {x : Nat} {v : Value} (hv : v = .int .i64 (x : Int)) : ∀ k j, k < l.length + 1 → j < 1 → capp l.length (wcl l) (fun k' j => ([[v]].getD k' []).getD j undef) k j = wcl (l ++ [x]) k j := by
  intro k j hk hj
  have : j = 0 := by omega
  subst this
  subst hv
  unfold capp wcl
  by_cases h : k < l.length
  · rw [if_pos h, List.getD_eq_getElem?_getD, List.getD_eq_getElem?_getD, List.getElem?_append_left h]
  · have e : k = l.length := by omega
    subst e
    rw [if_neg h, Nat.sub_self, List.getD_eq_getElem?_getD, List.getElem?_append_right (Nat.le_refl _), Nat.sub_self]
    rfl
theorem two_cells {x y : Int} : ∀ k j, k < 2 → j < 1 → ([[Value.int .i64 x], [Value.int .i64 y]].getD k []).getD j undef = icl [x, y] k j := by
  intro k j hk hj
  have : j = 0 := by omega
  subst this
  match k, hk with
  | 0, _ => rfl
  | 1, _ => rfl
theorem way_snoc {ps : List Psg} {out : Int} {help : Bool} {d : Nat → Int} {to g p k b : Nat} {wl W : List Nat} (h : wl ++ wayG ps out help d to g p = W) (hg : 1 ≤ g) (hne : p ≠ to) (hk : stepK ps out help d p = k) (hb : oth out help (ps.getD k Psg.zero) p = (b : Int)) : (wl ++ [k]) ++ wayG ps out help d to (g - 1) b = W := by
  obtain ⟨g, rfl⟩ : ∃ n, g = n + 1 := ⟨g - 1, by omega⟩
  rw [wayG_step hne hk, hb, Int.toNat_natCast] at h
  rw [← h, Nat.add_sub_cancel, List.append_assoc]
  rfl
theorem way_end {ps : List Psg} {out : Int} {help : Bool} {d : Nat → Int} {to g : Nat} {wl W : List Nat} (h : wl ++ wayG ps out help d to g to = W) : wl = W := by rw [wayG_to, List.append_nil] at h; exact h
theorem stepB_t {ps : List Psg} {out : Int} {help : Bool} {d : Nat → Int} {p k : Nat} (h : (0 ≤ oth out help (ps.getD k Psg.zero) p ∧ 0 ≤ d (oth out help (ps.getD k Psg.zero) p).toNat) ∧ d (oth out help (ps.getD k Psg.zero) p).toNat + (ps.getD k Psg.zero).ticks = d p) : stepB ps out help d p k = true := by
  unfold stepB
  simp only [Bool.and_eq_true, decide_eq_true_eq]
  exact ⟨h.1.1, h.1.2, h.2⟩
theorem stepB_f {ps : List Psg} {out : Int} {help : Bool} {d : Nat → Int} {p k : Nat} (h : (oth out help (ps.getD k Psg.zero) p < 0 ∨ d (oth out help (ps.getD k Psg.zero) p).toNat < 0) ∨ ¬ d (oth out help (ps.getD k Psg.zero) p).toNat + (ps.getD k Psg.zero).ticks = d p) : stepB ps out help d p k = false := by
  unfold stepB
  simp only [Bool.and_eq_false_iff, decide_eq_false_iff_not]
  omega
theorem no_step {f : Nat → Bool} {k : Nat} (h : ∀ q, q < k → f q = false) (hk : f k = false) : ∀ q, q < k + 1 → f q = false := fun q hq => by
  by_cases e : q = k
  · subst e; exact hk
  · exact h q (by omega)
/-! the document's table: far is 2^30 -/
end Go.Proofs.Ytopmadlgolnmfaa

namespace Go.Proofs.Ytopmadlgolnmfaa
set_option linter.unusedVariables false
set_option linter.unusedSimpArgs false

section
variable {ps : List Psg} {out : Int} {help : Bool} {d : Nat → Int} {p : Nat} {k : Nat}
theorem oth_opn {q : Psg} {a : Int} (h : opn out help q = true) : oth out help q a = othr q a := by unfold oth; rw [if_neg (by rw [h]; simp)]
theorem oth_shut {q : Psg} {a : Int} (h : opn out help q = false) : oth out help q a = -1 := by unfold oth; rw [if_pos h]
end

/-! ## machines of a kind -/
section
variable {ps : List Psg} {out kind : Int}
end
/-- A way stays one where no passage that was open is shut. -/
theorem Wk.mono' {ps : List Psg} {out out' : Int} {help help' : Bool} {a c n : Nat} {l : List Nat} (W : Wk ps out help a c n l) : (∀ k, k ∈ l → k < ps.length → opn out help (ps.getD k Psg.zero) = true → opn out' help' (ps.getD k Psg.zero) = true) → Wk ps out' help' a c n l := by
  induction W with
  | nil a => exact fun _ => .nil a
  | @cons a b c n k l hk ho _ ih =>
    intro h
    have ho1 : opn out help (ps.getD k Psg.zero) = true := by
      cases hb : opn out help (ps.getD k Psg.zero) with
      | true => rfl
      | false => rw [oth_shut hb] at ho; omega
    refine .cons hk ?_ (ih fun q hq => h q (List.mem_cons_of_mem _ hq))
    rw [oth_opn (h k (List.mem_cons_self ..) hk ho1), ← oth_opn ho1]
    exact ho
theorem Wk.mono {ps : List Psg} {out out' : Int} {help help' : Bool} (h : ∀ k, k < ps.length → opn out help (ps.getD k Psg.zero) = true → opn out' help' (ps.getD k Psg.zero) = true) {a c n : Nat} {l : List Nat} (W : Wk ps out help a c n l) : Wk ps out' help' a c n l := W.mono' fun k _ => h k
/-! ## what is answered -/
end Go.Proofs.Ytopmadlgolnmfaa
