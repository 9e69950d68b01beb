/- The data of layer 2, and how they lie in memory. -/
import Derived.Test.YtdfjdkhgdmndjaaMat
namespace Go.Proofs.Ytdfjdkhgdmndjaa
set_option linter.unusedVariables false
set_option linter.unusedSimpArgs false
open Go.RowKit

structure Chain where
  links : Int
  pitch : Int
  limit : Int
structure Gauge where
  fr : Int
  to : Int
  lo : Int
  hi : Int

def Gauge.zero : Gauge := ⟨0, 0, 0, 0⟩
def Gauge.cell (g : Gauge) : Nat → Value
  | 0 => .int .i64 g.fr
  | 1 => .int .i64 g.to
  | 2 => .int .i64 g.lo
  | _ => .int .i64 g.hi
def gcell (l : List Gauge) (k j : Nat) : Value := (l.getD k Gauge.zero).cell j
abbrev Chain.val (c : Chain) : Value := .agg [.int .i64 c.links, .int .i64 c.pitch, .int .i64 c.limit].toArray

def chainOk (c : Chain) : Bool := decide (1 ≤ c.links ∧ c.links ≤ 24 ∧ 1 ≤ c.pitch ∧ c.pitch ≤ c.limit ∧ c.limit ≤ 100000)
def gaugeOk (links : Int) (g : Gauge) : Bool := decide (0 ≤ g.fr ∧ g.fr < g.to ∧ g.to ≤ links ∧ 0 ≤ g.lo ∧ g.lo ≤ g.hi ∧ g.hi ≤ 10000000)
def checkE (c : Chain) (l : List Gauge) : Int :=
  if chainOk c then (if l.length ≤ 40 then (if l.all (gaugeOk c.links) then 0 else 21) else 2) else 20

theorem all_take {α : Type} {l : List α} {p : α → Bool} {k : Nat} {d : α} (hk : k < l.length) (h : (l.take k).all p = true) (hp : p (l.getD k d) = true) : (l.take (k + 1)).all p = true := by
  rw [List.take_succ_eq_append_getElem hk, List.all_append, h]
  simp only [List.getD_eq_getElem?_getD, List.getElem?_eq_getElem hk, Option.getD_some] at hp
  simp [hp]
theorem all_false {α : Type} {l : List α} {p : α → Bool} {k : Nat} {d : α} (hk : k < l.length) (hp : p (l.getD k d) = false) : l.all p = false := by
  simp only [List.getD_eq_getElem?_getD, List.getElem?_eq_getElem hk, Option.getD_some] at hp
  rw [← Bool.not_eq_true, List.all_eq_true]
  intro h
  have := h _ (List.getElem_mem hk)
  rw [hp] at this
  cases this
end Go.Proofs.Ytdfjdkhgdmndjaa
