/- Chapter 8: the station of the examples. -/
import Derived.Test.YtlmddkekeoebcaaFar
import Derived.Test.YtlmddkekeoebcaaMin
namespace Go.Proofs.Ytlmddkekeoebcaa
set_option linter.unusedVariables false
set_option linter.unusedSimpArgs false
set_option maxRecDepth 100000

def exW : List Psg := [⟨0, 1, 2, 3, 2, -1, 0⟩, ⟨0, 1, 3, 2, 3, 0, 4⟩, ⟨0, 1, 4, 5, 1, 1, 0⟩, ⟨1, 2, 1, 1, 4, -1, 0⟩, ⟨2, 3, 5, 2, 1, -1, 0⟩]
def exX : List Int := [2]
def exP : List Int := [10, 0, 0, 0]
theorem exW_ok : stE 4 exW exX = 0 := by decide +kernel
def exTk (i : Nat) : Int := [8, 3, 2, 0].getD i (-1)
theorem exFar : FarOk 4 exW 0 true 3 exTk := by
  have w3 : Wk exW 0 true 3 3 0 [] := Wk.nil 3
  have w2 : Wk exW 0 true 2 3 2 [4] := Wk.cons (k := 4) (by decide) (by decide +kernel) w3
  have w1 : Wk exW 0 true 1 3 3 [3, 4] := Wk.cons (k := 3) (by decide) (by decide +kernel) w2
  have w0 : Wk exW 0 true 0 3 8 [2, 3, 4] := Wk.cons (k := 2) (by decide) (by decide +kernel) w1
  refine ⟨rfl, fun i => ?_, fun i hi _ => ?_, fun i hi k hk => fixAt_of ?_, fun i hi => ?_⟩
  · unfold exTk
    match i with
    | 0 => decide
    | 1 => decide
    | 2 => decide
    | 3 => decide
    | n + 4 => exact Int.le_refl _
  · match i, hi with
    | 0, _ => exact ⟨_, w0⟩
    | 1, _ => exact ⟨_, w1⟩
    | 2, _ => exact ⟨_, w2⟩
    | 3, _ => exact ⟨_, w3⟩
  · have key : ∀ i : Nat, i < 4 → ∀ k : Nat, k < 5 → (oth 0 true (exW.getD k Psg.zero) i < 0 ∨ exTk (oth 0 true (exW.getD k Psg.zero) i).toNat < 0 ∨ (0 ≤ exTk i ∧ exTk i ≤ exTk (oth 0 true (exW.getD k Psg.zero) i).toNat + (exW.getD k Psg.zero).ticks)) := by decide +kernel
    exact key i hi k hk
  · have key : ∀ i : Nat, i < 4 → exTk i ≤ 200 := by decide +kernel
    exact key i hi
theorem exV : StV ((4 : Nat) : Int) exW exX := st_valid exW_ok
theorem ex_dst : dst 4 exW 0 true 3 0 = 8 := dst_eq exV.psv exFar (by decide)
theorem fstB_congr {f g : Nat → Bool} : ∀ {n : Nat}, (∀ q, q < n → f q = g q) → fstB f n = fstB g n := by
  intro n
  induction n with
  | zero => intro _; rfl
  | succ n ih => intro h; rw [fstB, fstB, ih (fun q hq => h q (by omega)), h n (by omega)]
theorem oth_lt {P : Nat} {ps : List Psg} (V : PsV P ps) (hP : 0 < P) {out : Int} {help : Bool} (k : Nat) (a : Int) : (oth out help (ps.getD k Psg.zero) a).toNat < P := by
  by_cases h0 : 0 ≤ oth out help (ps.getD k Psg.zero) a
  · by_cases hk : k < ps.length
    · have := (oth_in V hk h0).2.1; omega
    · exfalso
      rw [List.getD_eq_getElem?_getD, List.getElem?_eq_none (by omega)] at h0
      unfold oth at h0
      rw [if_pos (show opn out help (none.getD Psg.zero) = false from rfl)] at h0
      omega
  · omega
theorem wayG_congr {P : Nat} {ps : List Psg} (V : PsV P ps) (hP : 0 < P) {out : Int} {help : Bool} {d d' : Nat → Int} {to : Nat} (h : ∀ i, i < P → d i = d' i) : ∀ (g a : Nat), a < P → wayG ps out help d to g a = wayG ps out help d' to g a := by
  intro g
  induction g with
  | zero => intro a _; rfl
  | succ g ih =>
    intro a ha
    have hs : stepK ps out help d a = stepK ps out help d' a := fstB_congr fun q _ => by
      unfold stepB
      rw [h _ (oth_lt V hP q a), h a ha]
    unfold wayG
    rw [hs, ih _ (oth_lt V hP _ _)]
theorem ex_way : wayL 4 exW 0 true 0 3 = [2, 3, 4] := by
  unfold wayL
  rw [ex_dst, wayG_congr exV.psv (by decide) (d' := exTk) (fun i hi => dst_eq exV.psv exFar hi) _ 0 (by decide)]
  decide +kernel
/-! who leaves: the flow of seven, and what can still be reached -/
deriving instance DecidableEq for Mv
deriving instance DecidableEq for Ent
def exH : List Hd := hds 0 exX exW
def exN : Net := layN 4 4 exP exX exH
def exR : RM := (layT 4 4 exP exX exH).room
theorem exLay : LayOk 4 4 exP exX exH := lay_ok exV (by
  have key : ∀ k : Nat, k < 4 → 0 ≤ exP.getD k 0 ∧ exP.getD k 0 ≤ 1000 := by decide
  exact key)
/-- The table as lists, to be computed. -/
def joinL (T : List (List Ent)) (f t : Nat) (room : Int) (mv : Mv) : List (List Ent) := (T.set f (T.getD f [] ++ [⟨t, room, (T.getD t []).length, mv⟩])).set t (T.getD t [] ++ [⟨f, 0, (T.getD f []).length, Mv.none⟩])
def joinsL (n : Nat) (J : List Jn) : List (List Ent) := J.foldl (fun T j => joinL T j.f j.t j.room j.mv) (List.replicate n [])
theorem getD_set {l : List (List Ent)} {k i : Nat} {v : List Ent} (hk : k < l.length) : (l.set k v).getD i [] = if i = k then v else l.getD i [] := by
  rw [List.getD_eq_getElem?_getD, List.getElem?_set, List.getD_eq_getElem?_getD]
  by_cases h : k = i
  · subst h; rw [if_pos rfl, if_pos rfl, if_pos hk]; rfl
  · rw [if_neg h, if_neg (fun e => h e.symm)]
theorem joinsL_at (n : Nat) : ∀ (J : List Jn), (∀ j ∈ J, j.f < n ∧ j.t < n) → ∀ (U : Tab) (T : List (List Ent)), T.length = n → (∀ i, U i = T.getD i []) → ∀ i, (J.foldl (fun T j => joinT T j.f j.t j.room j.mv) U) i = (J.foldl (fun T j => joinL T j.f j.t j.room j.mv) T).getD i [] := by
  intro J
  induction J with
  | nil => intro _ U T _ h i; exact h i
  | cons j J ih =>
    intro hJ U T hT h i
    have hj := hJ j (List.mem_cons_self ..)
    rw [List.foldl_cons, List.foldl_cons]
    refine ih (fun x hx => hJ x (List.mem_cons_of_mem _ hx)) _ _ (by unfold joinL; rw [List.length_set, List.length_set, hT]) (fun q => ?_) i
    unfold joinT joinL upd
    rw [getD_set (by rw [List.length_set, hT]; exact hj.2), getD_set (by rw [hT]; exact hj.1), h j.f, h j.t, h q]
theorem joins_eq {n : Nat} {J : List Jn} (hJ : ∀ j ∈ J, j.f < n ∧ j.t < n) {L : List (List Ent)} (hL : joinsL n J = L) : joins J = fun i => L.getD i [] := by
  funext i
  subst hL
  exact joinsL_at n J hJ _ _ (List.length_replicate ..) (fun i => by rw [List.getD_eq_getElem?_getD, List.getElem?_replicate]; split <;> rfl) i
def exE (to : Nat) (room : Int) (back : Nat) (pas fr at_ : Int) : Ent := ⟨to, room, back, ⟨pas, fr, at_, 0⟩⟩
def exL : List (List Ent) := [[exE 20 0 0 (-1) 0 0, exE 4 1099511627776 0 (-1) 0 0, exE 13 2 2 0 0 0, exE 9 3 2 1 0 0],
  [exE 20 0 1 (-1) 0 0, exE 5 1099511627776 0 (-1) 0 0, exE 12 2 2 0 1 0, exE 6 4 3 3 1 0],
  [exE 20 0 2 (-1) 0 0, exE 6 1099511627776 0 (-1) 0 0, exE 21 1099511627776 0 (-1) 0 0],
  [exE 20 0 3 (-1) 0 0, exE 7 1099511627776 0 (-1) 0 0, exE 10 1 4 4 3 0],
  [exE 0 0 1 (-1) 0 0, exE 8 1099511627776 0 (-1) 0 0, exE 17 2 1 0 0 1, exE 13 3 3 1 0 1],
  [exE 1 0 1 (-1) 0 0, exE 9 1099511627776 0 (-1) 0 0, exE 16 2 1 0 1 1, exE 10 4 3 3 1 1],
  [exE 2 0 1 (-1) 0 0, exE 10 1099511627776 0 (-1) 0 0, exE 21 1099511627776 1 (-1) 0 0, exE 1 0 3 (-1) 0 0],
  [exE 3 0 1 (-1) 0 0, exE 11 1099511627776 0 (-1) 0 0, exE 14 1 4 4 3 1],
  [exE 4 0 1 (-1) 0 0, exE 12 1099511627776 0 (-1) 0 0, exE 17 3 2 1 0 2],
  [exE 5 0 1 (-1) 0 0, exE 13 1099511627776 0 (-1) 0 0, exE 0 0 3 (-1) 0 0, exE 14 4 3 3 1 2],
  [exE 6 0 1 (-1) 0 0, exE 14 1099511627776 0 (-1) 0 0, exE 21 1099511627776 2 (-1) 0 0, exE 5 0 3 (-1) 0 0, exE 3 0 2 (-1) 0 0],
  [exE 7 0 1 (-1) 0 0, exE 15 1099511627776 0 (-1) 0 0, exE 18 1 3 4 3 2],
  [exE 8 0 1 (-1) 0 0, exE 16 1099511627776 0 (-1) 0 0, exE 1 0 2 (-1) 0 0],
  [exE 9 0 1 (-1) 0 0, exE 17 1099511627776 0 (-1) 0 0, exE 0 0 2 (-1) 0 0, exE 4 0 3 (-1) 0 0, exE 18 4 2 3 1 3],
  [exE 10 0 1 (-1) 0 0, exE 18 1099511627776 0 (-1) 0 0, exE 21 1099511627776 3 (-1) 0 0, exE 9 0 3 (-1) 0 0, exE 7 0 2 (-1) 0 0],
  [exE 11 0 1 (-1) 0 0, exE 19 1099511627776 0 (-1) 0 0],
  [exE 12 0 1 (-1) 0 0, exE 5 0 2 (-1) 0 0],
  [exE 13 0 1 (-1) 0 0, exE 4 0 2 (-1) 0 0, exE 8 0 2 (-1) 0 0],
  [exE 14 0 1 (-1) 0 0, exE 21 1099511627776 4 (-1) 0 0, exE 13 0 4 (-1) 0 0, exE 11 0 2 (-1) 0 0],
  [exE 15 0 1 (-1) 0 0],
  [exE 0 10 0 (-1) 0 0, exE 1 0 0 (-1) 0 0, exE 2 0 0 (-1) 0 0, exE 3 0 0 (-1) 0 0],
  [exE 2 0 2 (-1) 0 0, exE 6 0 2 (-1) 0 0, exE 10 0 2 (-1) 0 0, exE 14 0 2 (-1) 0 0, exE 18 0 1 (-1) 0 0]]
theorem exL_eq : joinsL 22 (jAll 4 4 exP exX exH) = exL := by decide +kernel
theorem exJ_ok : ∀ j ∈ jAll 4 4 exP exX exH, j.f < 22 ∧ j.t < 22 := by decide +kernel
def exT : Tab := fun i => exL.getD i []
theorem exT_eq : layT 4 4 exP exX exH = exT := joins_eq exJ_ok exL_eq
theorem exN_eq : layN 4 4 exP exX exH = exT.net 22 := by unfold layN; rw [exT_eq]
def exR1 : RM := along (exT.net 22) exT.room 14 2 3
def exR2 : RM := along (exT.net 22) exR1 9 3 3
def exR3 : RM := along (exT.net 22) exR2 0 3 3
def exR4 : RM := along (exT.net 22) exR3 20 0 3
def exR5 : RM := along (exT.net 22) exR4 18 1 3
def exR6 : RM := along (exT.net 22) exR5 13 4 3
def exR7 : RM := along (exT.net 22) exR6 4 3 3
def exR8 : RM := along (exT.net 22) exR7 0 1 3
def exR9 : RM := along (exT.net 22) exR8 20 0 3
def exR10 : RM := along (exT.net 22) exR9 18 1 1
def exR11 : RM := along (exT.net 22) exR10 13 4 1
def exR12 : RM := along (exT.net 22) exR11 0 2 1
def exR13 : RM := along (exT.net 22) exR12 20 0 1
theorem exWf : (exT.net 22).Wf := by have h := exLay.wf; rw [exN_eq] at h; exact h
theorem exTOk : Ok (exT.net 22) exT.room 2199023255552 := by have h := exLay.ok; rw [exN_eq, exT_eq] at h; exact h
theorem exS1_0 : Fl (exT.net 22) exT.room exT.room 21 21 3 := Fl.here exTOk
theorem exS1_1 : Fl (exT.net 22) exT.room exR1 14 21 3 := Fl.step exWf (a := 14) (b := 2) (by decide +kernel) (by decide +kernel) exS1_0 (by decide) (by decide +kernel)
theorem exS1_2 : Fl (exT.net 22) exT.room exR2 9 21 3 := Fl.step exWf (a := 9) (b := 3) (by decide +kernel) (by decide +kernel) exS1_1 (by decide) (by decide +kernel)
theorem exS1_3 : Fl (exT.net 22) exT.room exR3 0 21 3 := Fl.step exWf (a := 0) (b := 3) (by decide +kernel) (by decide +kernel) exS1_2 (by decide) (by decide +kernel)
theorem exS1_4 : Fl (exT.net 22) exT.room exR4 20 21 3 := Fl.step exWf (a := 20) (b := 0) (by decide +kernel) (by decide +kernel) exS1_3 (by decide) (by decide +kernel)
theorem exF1 : Fl (exT.net 22) exT.room exR4 20 21 3 := exS1_4
theorem exS2_0 : Fl (exT.net 22) exR4 exR4 21 21 3 := Fl.here (exF1.ok exTOk)
theorem exS2_1 : Fl (exT.net 22) exR4 exR5 18 21 3 := Fl.step exWf (a := 18) (b := 1) (by decide +kernel) (by decide +kernel) exS2_0 (by decide) (by decide +kernel)
theorem exS2_2 : Fl (exT.net 22) exR4 exR6 13 21 3 := Fl.step exWf (a := 13) (b := 4) (by decide +kernel) (by decide +kernel) exS2_1 (by decide) (by decide +kernel)
theorem exS2_3 : Fl (exT.net 22) exR4 exR7 4 21 3 := Fl.step exWf (a := 4) (b := 3) (by decide +kernel) (by decide +kernel) exS2_2 (by decide) (by decide +kernel)
theorem exS2_4 : Fl (exT.net 22) exR4 exR8 0 21 3 := Fl.step exWf (a := 0) (b := 1) (by decide +kernel) (by decide +kernel) exS2_3 (by decide) (by decide +kernel)
theorem exS2_5 : Fl (exT.net 22) exR4 exR9 20 21 3 := Fl.step exWf (a := 20) (b := 0) (by decide +kernel) (by decide +kernel) exS2_4 (by decide) (by decide +kernel)
theorem exF2 : Fl (exT.net 22) exT.room exR9 20 21 6 := exF1.more exS2_5
theorem exS3_0 : Fl (exT.net 22) exR9 exR9 21 21 1 := Fl.here (exF2.ok exTOk)
theorem exS3_1 : Fl (exT.net 22) exR9 exR10 18 21 1 := Fl.step exWf (a := 18) (b := 1) (by decide +kernel) (by decide +kernel) exS3_0 (by decide) (by decide +kernel)
theorem exS3_2 : Fl (exT.net 22) exR9 exR11 13 21 1 := Fl.step exWf (a := 13) (b := 4) (by decide +kernel) (by decide +kernel) exS3_1 (by decide) (by decide +kernel)
theorem exS3_3 : Fl (exT.net 22) exR9 exR12 0 21 1 := Fl.step exWf (a := 0) (b := 2) (by decide +kernel) (by decide +kernel) exS3_2 (by decide) (by decide +kernel)
theorem exS3_4 : Fl (exT.net 22) exR9 exR13 20 21 1 := Fl.step exWf (a := 20) (b := 0) (by decide +kernel) (by decide +kernel) exS3_3 (by decide) (by decide +kernel)
theorem exF3 : Fl (exT.net 22) exT.room exR13 20 21 7 := exF2.more exS3_4
def exLv (i : Nat) : Int := [1, -1, -1, -1, 2, -1, -1, -1, 3, -1, -1, -1, 4, 2, -1, -1, 5, 3, -1, -1, 0, -1].getD i (-1)
theorem exLev : LevOk (exT.net 22) exR13 20 exLv := by
  have h1 : ∀ v, v < 22 → -1 ≤ exLv v ∧ exLv v < 22 := by decide +kernel
  have h2 : ∀ u, u < 22 → 0 ≤ exLv u → ∀ j, j < (exT.net 22).n u → 0 < exR13 u j → 0 ≤ exLv ((exT.net 22).to u j) := by decide +kernel
  have h3 : ∀ v, v < 22 → 0 ≤ exLv v → v = 20 ∨ ∃ u, u < 22 ∧ ∃ j, j < (exT.net 22).n u ∧ 0 ≤ exLv u ∧ 0 < exR13 u j ∧ (exT.net 22).to u j = v ∧ exLv v = exLv u + 1 := by decide +kernel
  exact ⟨rfl, h1, h2, h3⟩
theorem exEnd : EndP 4 4 exP exX exH 7 exR13 exLv := by
  have hN := exN_eq
  have hT := exT_eq
  refine ⟨?_, by decide, ?_, by decide⟩
  · rw [hN, hT]; exact exF3
  · rw [hN]; exact exLev
theorem ex_cut : ∀ p, p < 4 → mfc 4 4 exP exX (hds 0 exX exW) p = [0, 3, 5, 5].getD p 0 := fun p hp => by
  have h := mfc_eq exLay exEnd hp
  unfold exH at h
  rw [h]
  have key : ∀ p, p < 4 → cutAt 4 4 exLv p = [0, 3, 5, 5].getD p 0 := by decide +kernel
  exact key p hp
end Go.Proofs.Ytlmddkekeoebcaa
