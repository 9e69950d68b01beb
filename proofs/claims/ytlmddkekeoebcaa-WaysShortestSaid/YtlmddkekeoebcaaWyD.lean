/- Chapter 8: passages, stations, edges, and how they lie in memory. -/
import Derived.Test.YtlmddkekeoebcaaNet
namespace Go.Proofs.Ytlmddkekeoebcaa
set_option linter.unusedVariables false
set_option linter.unusedSimpArgs false
open Go.RowKit

structure Psg where
  a : Int
  b : Int
  kind : Int
  ticks : Int
  wide : Int
  mach : Int
  still : Int
def Psg.zero : Psg := ⟨0, 0, 0, 0, 0, 0, 0⟩
def Psg.cell (p : Psg) : Nat → Value
  | 0 => .int .i64 p.a
  | 1 => .int .i64 p.b
  | 2 => .int .i64 p.kind
  | 3 => .int .i64 p.ticks
  | 4 => .int .i64 p.wide
  | 5 => .int .i64 p.mach
  | _ => .int .i64 p.still
def pcell (l : List Psg) (k j : Nat) : Value := (l.getD k Psg.zero).cell j
/-- A move: passage, from, at, many. -/
structure Mv where
  pas : Int
  fr : Int
  at_ : Int
  many : Int
def Mv.zero : Mv := ⟨0, 0, 0, 0⟩
def Mv.none : Mv := ⟨-1, 0, 0, 0⟩
def Mv.cells (m : Mv) : List Value := [.int .i64 m.pas, .int .i64 m.fr, .int .i64 m.at_, .int .i64 m.many]
def Mv.cell (m : Mv) : Nat → Value
  | 0 => .int .i64 m.pas
  | 1 => .int .i64 m.fr
  | 2 => .int .i64 m.at_
  | _ => .int .i64 m.many
def mvcell (l : List Mv) (k j : Nat) : Value := (l.getD k Mv.zero).cell j
structure Ent where
  to : Nat
  room : Int
  back : Nat
  mv : Mv
def Ent.zero : Ent := ⟨0, 0, 0, Mv.zero⟩
def Ent.cell (x : Ent) : Nat → Value
  | 0 => .int .i64 (x.to : Int)
  | 1 => .int .i64 x.room
  | 2 => .int .i64 (x.back : Int)
  | 3 => .int .i64 x.mv.pas
  | 4 => .int .i64 x.mv.fr
  | 5 => .int .i64 x.mv.at_
  | _ => .int .i64 x.mv.many
abbrev Tab := Nat → List Ent
def tcell (T : Tab) (i k j : Nat) : Value := ((T i).getD k Ent.zero).cell j
def hdc (A : Nat → Option Addr) (n c : Nat → Nat) (i _j : Nat) : Value := .slice (A i) (n i) (c i)
def tlen (T : Tab) (i : Nat) : Nat := (T i).length
/-- One edge more, and the one back. -/
def joinT (T : Tab) (f t : Nat) (room : Int) (mv : Mv) : Tab :=
  upd (upd T f (T f ++ [⟨t, room, (T t).length, mv⟩])) t (T t ++ [⟨f, 0, (T f).length, Mv.none⟩])

/-- The net of a table of edges. -/
def Tab.net (T : Tab) (k : Nat) : Net := ⟨k, tlen T, fun i j => ((T i).getD j Ent.zero).to, fun i j => ((T i).getD j Ent.zero).back⟩
def Tab.room (T : Tab) : RM := fun i j => ((T i).getD j Ent.zero).room
def Tab.mv (T : Tab) : Nat → Nat → Mv := fun i j => ((T i).getD j Ent.zero).mv
def edgeC (N : Net) (r : RM) (mv : Nat → Nat → Mv) (i k : Nat) : Nat → Value
  | 0 => .int .i64 (N.to i k : Int)
  | 1 => .int .i64 (r i k)
  | 2 => .int .i64 (N.back i k : Int)
  | 3 => .int .i64 (mv i k).pas
  | 4 => .int .i64 (mv i k).fr
  | 5 => .int .i64 (mv i k).at_
  | _ => .int .i64 (mv i k).many
theorem tcell_edge (T : Tab) (k : Nat) : tcell T = edgeC (T.net k) T.room T.mv := by
  funext i q j
  unfold tcell edgeC Ent.cell Tab.net Tab.room Tab.mv
  match j with
  | 0 => rfl
  | 1 => rfl
  | 2 => rfl
  | 3 => rfl
  | 4 => rfl
  | 5 => rfl
  | _ + 6 => rfl
theorem edgeC_put {N : Net} {r : RM} {mv : Nat → Nat → Mv} {p q : Nat} {v : Int} : upd (edgeC N r mv) p (cput (edgeC N r mv p) q 1 (.int .i64 v)) = edgeC N (put2 r p q v) mv := by
  funext i k j
  unfold upd cput
  by_cases h : i = p
  · subst h
    rw [if_pos rfl]
    by_cases h2 : k = q ∧ j = 1
    · obtain ⟨rfl, rfl⟩ := h2
      rw [if_pos ⟨rfl, rfl⟩]
      simp only [edgeC, put2_same]
    · skip
      rw [if_neg h2]
      match j with
      | 0 => rfl
      | 1 => simp only [edgeC]; rw [put2_ne (fun h => h2 ⟨h.2, rfl⟩)]
      | 2 => rfl
      | 3 => rfl
      | 4 => rfl
      | 5 => rfl
      | _ + 6 => rfl
  · rw [if_neg h]
    match j with
    | 0 => rfl
    | 1 => simp only [edgeC]; rw [put2_ne (fun h2 => h h2.1)]
    | 2 => rfl
    | 3 => rfl
    | 4 => rfl
    | 5 => rfl
    | _ + 6 => rfl
def lcl (L : Nat → Int) (i _j : Nat) : Value := .int .i64 (L i)
def ncl (n : Nat → Nat) (i _j : Nat) : Value := .int .i64 (n i : Int)
theorem ncl_put {n : Nat → Nat} {p v : Nat} {x : Int} (h : x = (v : Int)) : cput (ncl n) p 0 (.int .i64 x) = fun i j => if j = 0 then ncl (upd n p v) i j else ncl n i j := by
  subst h
  funext i j
  unfold cput ncl upd
  by_cases h1 : i = p <;> by_cases h2 : j = 0 <;> simp [h1, h2]
end Go.Proofs.Ytlmddkekeoebcaa
