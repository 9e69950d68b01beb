/-
  No cell of these rows narrows 'for every input' (looked for: loops, veiled, ifaces, maps, wideKeys, modest, calm, conditions, laid).
  DERIVED. THE GIVEN ROWS OF THIS SEAT. 6 by the template 'for every input the law returns true; each argument reads behind the call as it read before'; 0 by the template 'total and deterministic' (their statements: YtopmadlgolnmfaaTotals.lean).
  GIVEN WITH THE SEED: the statements are not yours to turn. If you find one false, say at which input.
  Laid BY PROGRAM, IN A SANDBOX (cutbox-rows.mjs): the forced cells as the released guide's own fill.sh prints them over the translation 0a017869739680ff… (all of the seat's roots in one cut). By AI agents, Wed Nov 11 2026. No macro, syntax, notation, axiom, sorry.
-/
import Derived.Test.YtopmadlgolnmfaaChecked
import GoSem.Claim
import GoSem.ClaimJoined
import GoSem.ClaimMapViews
import Derived.JoinedTies
import Derived.KernelRfl
namespace Go.Proofs.Ytopmadlgolnmfaa
/- THE CELL 'sum', in the pinned program and in every row, IS THE sha256 OF THE DUMP (.gsa) THAT YtopmadlgolnmfaaProg.lean LOADS. Nothing in Lean hashes anything: it is a label: what it is worth is what the hold of that sum in a sandbox is worth. -/
noncomputable def Try.pinned : Pinned := { name := "ytopmadlgolnmfaa", sum := "0a017869739680ff338002efca3ce9f162adee2bfa69caa47da38ec8a5f0d1a6", checked := Try.checked }
namespace Rows
def none {H : Type} : Left H := { results := [], args := [] }

/-- 'newellaw12.TermsKeeps': WHATEVER THE INPUT: true; the input reads as it did. -/
def termsKeepsSpec : ChangeSpec := { name := "termsKeeps", fn := fun _ => fun
  | [d1, d2] => { results := [.lit (.bool true)], args := [d1, d2] }
  | _ => none }
def termsKeepsRow : OpenClaim := { program := "ytopmadlgolnmfaa", sum := "0a017869739680ff338002efca3ce9f162adee2bfa69caa47da38ec8a5f0d1a6", func := "newel/newellaw12.TermsKeeps", spec := "termsKeeps", unfollowed := true, recurses := true, plainKeys := false, apart := false }
def TermsKeepsSaid : Prop := termsKeepsRow.holds Try.pinned (OpenSpec.ofChange termsKeepsSpec)

/-- ITS FALSE NEIGHBOUR: 'it returns false'. Refute it at one input. -/
def termsKeepsWrong : ChangeSpec := { name := "termsKeeps", fn := fun _ => fun
  | [d1, d2] => { results := [.lit (.bool false)], args := [d1, d2] }
  | _ => none }
def TermsKeepsWrongFalsely : Prop := termsKeepsRow.holds Try.pinned (OpenSpec.ofChange termsKeepsWrong)

/-- 'newellaw12.TermsLater': WHATEVER THE INPUT: true; the input reads as it did. -/
def termsLaterSpec : ChangeSpec := { name := "termsLater", fn := fun _ => fun
  | [d1, d2] => { results := [.lit (.bool true)], args := [d1, d2] }
  | _ => none }
def termsLaterRow : OpenClaim := { program := "ytopmadlgolnmfaa", sum := "0a017869739680ff338002efca3ce9f162adee2bfa69caa47da38ec8a5f0d1a6", func := "newel/newellaw12.TermsLater", spec := "termsLater", unfollowed := true, recurses := true, plainKeys := false, apart := false }
def TermsLaterSaid : Prop := termsLaterRow.holds Try.pinned (OpenSpec.ofChange termsLaterSpec)

/-- ITS FALSE NEIGHBOUR: 'it returns false'. Refute it at one input. -/
def termsLaterWrong : ChangeSpec := { name := "termsLater", fn := fun _ => fun
  | [d1, d2] => { results := [.lit (.bool false)], args := [d1, d2] }
  | _ => none }
def TermsLaterWrongFalsely : Prop := termsLaterRow.holds Try.pinned (OpenSpec.ofChange termsLaterWrong)

/-- 'newellaw12.TermsNever': WHATEVER THE INPUT: true; the input reads as it did. -/
def termsNeverSpec : ChangeSpec := { name := "termsNever", fn := fun _ => fun
  | [d1, d2] => { results := [.lit (.bool true)], args := [d1, d2] }
  | _ => none }
def termsNeverRow : OpenClaim := { program := "ytopmadlgolnmfaa", sum := "0a017869739680ff338002efca3ce9f162adee2bfa69caa47da38ec8a5f0d1a6", func := "newel/newellaw12.TermsNever", spec := "termsNever", unfollowed := true, recurses := true, plainKeys := false, apart := false }
def TermsNeverSaid : Prop := termsNeverRow.holds Try.pinned (OpenSpec.ofChange termsNeverSpec)

/-- ITS FALSE NEIGHBOUR: 'it returns false'. Refute it at one input. -/
def termsNeverWrong : ChangeSpec := { name := "termsNever", fn := fun _ => fun
  | [d1, d2] => { results := [.lit (.bool false)], args := [d1, d2] }
  | _ => none }
def TermsNeverWrongFalsely : Prop := termsNeverRow.holds Try.pinned (OpenSpec.ofChange termsNeverWrong)

/-- 'newellaw12.TermsLives': WHATEVER THE INPUT: true; the input reads as it did. -/
def termsLivesSpec : ChangeSpec := { name := "termsLives", fn := fun _ => fun
  | [d1, d2] => { results := [.lit (.bool true)], args := [d1, d2] }
  | _ => none }
def termsLivesRow : OpenClaim := { program := "ytopmadlgolnmfaa", sum := "0a017869739680ff338002efca3ce9f162adee2bfa69caa47da38ec8a5f0d1a6", func := "newel/newellaw12.TermsLives", spec := "termsLives", unfollowed := true, recurses := true, plainKeys := false, apart := false }
def TermsLivesSaid : Prop := termsLivesRow.holds Try.pinned (OpenSpec.ofChange termsLivesSpec)

/-- ITS FALSE NEIGHBOUR: 'it returns false'. Refute it at one input. -/
def termsLivesWrong : ChangeSpec := { name := "termsLives", fn := fun _ => fun
  | [d1, d2] => { results := [.lit (.bool false)], args := [d1, d2] }
  | _ => none }
def TermsLivesWrongFalsely : Prop := termsLivesRow.holds Try.pinned (OpenSpec.ofChange termsLivesWrong)

/-- 'newellaw12.TermsUnits': WHATEVER THE INPUT: true; the input reads as it did. -/
def termsUnitsSpec : ChangeSpec := { name := "termsUnits", fn := fun _ => fun
  | [d1, d2] => { results := [.lit (.bool true)], args := [d1, d2] }
  | _ => none }
def termsUnitsRow : OpenClaim := { program := "ytopmadlgolnmfaa", sum := "0a017869739680ff338002efca3ce9f162adee2bfa69caa47da38ec8a5f0d1a6", func := "newel/newellaw12.TermsUnits", spec := "termsUnits", unfollowed := true, recurses := true, plainKeys := false, apart := false }
def TermsUnitsSaid : Prop := termsUnitsRow.holds Try.pinned (OpenSpec.ofChange termsUnitsSpec)

/-- ITS FALSE NEIGHBOUR: 'it returns false'. Refute it at one input. -/
def termsUnitsWrong : ChangeSpec := { name := "termsUnits", fn := fun _ => fun
  | [d1, d2] => { results := [.lit (.bool false)], args := [d1, d2] }
  | _ => none }
def TermsUnitsWrongFalsely : Prop := termsUnitsRow.holds Try.pinned (OpenSpec.ofChange termsUnitsWrong)

/-- 'newellaw12.TermsFewest': WHATEVER THE INPUT: true; the input reads as it did. -/
def termsFewestSpec : ChangeSpec := { name := "termsFewest", fn := fun _ => fun
  | [d1, d2] => { results := [.lit (.bool true)], args := [d1, d2] }
  | _ => none }
def termsFewestRow : OpenClaim := { program := "ytopmadlgolnmfaa", sum := "0a017869739680ff338002efca3ce9f162adee2bfa69caa47da38ec8a5f0d1a6", func := "newel/newellaw12.TermsFewest", spec := "termsFewest", unfollowed := true, recurses := true, plainKeys := false, apart := false }
def TermsFewestSaid : Prop := termsFewestRow.holds Try.pinned (OpenSpec.ofChange termsFewestSpec)

/-- ITS FALSE NEIGHBOUR: 'it returns false'. Refute it at one input. -/
def termsFewestWrong : ChangeSpec := { name := "termsFewest", fn := fun _ => fun
  | [d1, d2] => { results := [.lit (.bool false)], args := [d1, d2] }
  | _ => none }
def TermsFewestWrongFalsely : Prop := termsFewestRow.holds Try.pinned (OpenSpec.ofChange termsFewestWrong)

/- THE SECOND FORM. 'bulk': how many values and letters a reading holds, each counted each time it is reached (what is shared counts as often as it is met; a slice's spare places count too). A statement '..UptoSaid' is the law's where the arguments, and the package variables that the reading takes, are together of bulk at most 1048576: NARROWER than '..Said'. Prove '..Said' where nothing that the law and all that it calls make is longer than what came in: it says more and counts as full. Else prove '..UptoSaid'. A law counts once. -/
mutual
def uptoBulk {H : Type} : DataW H → Nat
  | .lit (.string bytes) => bytes.length + 1
  | .lit _ => 1
  | .nil => 1
  | .ptr d => uptoBulk d + 1
  | .slice elems spare => uptoBulkAll elems + uptoBulkAll spare + 1
  | .agg parts => uptoBulkAll parts + 1
  | .iface _ d => uptoBulk d + 1
  | .map entries => uptoBulkEntries entries + 1
  | .held _ => 1
def uptoBulkAll {H : Type} : List (DataW H) → Nat
  | [] => 0
  | d :: r => uptoBulk d + uptoBulkAll r
def uptoBulkEntries {H : Type} : List (Lit × DataW H) → Nat
  | [] => 0
  | x :: r => uptoBulkEntry x + uptoBulkEntries r
def uptoBulkEntry {H : Type} : Lit × DataW H → Nat
  | (.string bytes, d) => bytes.length + uptoBulk d + 1
  | (_, d) => uptoBulk d + 1
 end
def uptoSmall : (H : Type) → List (DataW H) → Bool := fun _ ds => decide (uptoBulkAll ds ≤ 1048576)
def OpenSpec.upto (s : _root_.Go.ChangeSpec) : _root_.Go.OpenSpec := { _root_.Go.OpenSpec.ofChange s with cond := some uptoSmall }

/-- 'newellaw12.TermsKeeps', WHERE WHAT IT READS IS OF BULK AT MOST 1048576: true; the input reads as it did. -/
def termsKeepsUptoRow : OpenClaim := { program := "ytopmadlgolnmfaa", sum := "0a017869739680ff338002efca3ce9f162adee2bfa69caa47da38ec8a5f0d1a6", func := "newel/newellaw12.TermsKeeps", spec := "termsKeeps", unfollowed := true, recurses := true, plainKeys := false, apart := false, narrowed := true }
def TermsKeepsUptoSaid : Prop := termsKeepsUptoRow.holds Try.pinned (OpenSpec.upto termsKeepsSpec)

/-- 'newellaw12.TermsLater', WHERE WHAT IT READS IS OF BULK AT MOST 1048576: true; the input reads as it did. -/
def termsLaterUptoRow : OpenClaim := { program := "ytopmadlgolnmfaa", sum := "0a017869739680ff338002efca3ce9f162adee2bfa69caa47da38ec8a5f0d1a6", func := "newel/newellaw12.TermsLater", spec := "termsLater", unfollowed := true, recurses := true, plainKeys := false, apart := false, narrowed := true }
def TermsLaterUptoSaid : Prop := termsLaterUptoRow.holds Try.pinned (OpenSpec.upto termsLaterSpec)

/-- 'newellaw12.TermsNever', WHERE WHAT IT READS IS OF BULK AT MOST 1048576: true; the input reads as it did. -/
def termsNeverUptoRow : OpenClaim := { program := "ytopmadlgolnmfaa", sum := "0a017869739680ff338002efca3ce9f162adee2bfa69caa47da38ec8a5f0d1a6", func := "newel/newellaw12.TermsNever", spec := "termsNever", unfollowed := true, recurses := true, plainKeys := false, apart := false, narrowed := true }
def TermsNeverUptoSaid : Prop := termsNeverUptoRow.holds Try.pinned (OpenSpec.upto termsNeverSpec)

/-- 'newellaw12.TermsLives', WHERE WHAT IT READS IS OF BULK AT MOST 1048576: true; the input reads as it did. -/
def termsLivesUptoRow : OpenClaim := { program := "ytopmadlgolnmfaa", sum := "0a017869739680ff338002efca3ce9f162adee2bfa69caa47da38ec8a5f0d1a6", func := "newel/newellaw12.TermsLives", spec := "termsLives", unfollowed := true, recurses := true, plainKeys := false, apart := false, narrowed := true }
def TermsLivesUptoSaid : Prop := termsLivesUptoRow.holds Try.pinned (OpenSpec.upto termsLivesSpec)

/-- 'newellaw12.TermsUnits', WHERE WHAT IT READS IS OF BULK AT MOST 1048576: true; the input reads as it did. -/
def termsUnitsUptoRow : OpenClaim := { program := "ytopmadlgolnmfaa", sum := "0a017869739680ff338002efca3ce9f162adee2bfa69caa47da38ec8a5f0d1a6", func := "newel/newellaw12.TermsUnits", spec := "termsUnits", unfollowed := true, recurses := true, plainKeys := false, apart := false, narrowed := true }
def TermsUnitsUptoSaid : Prop := termsUnitsUptoRow.holds Try.pinned (OpenSpec.upto termsUnitsSpec)

/-- 'newellaw12.TermsFewest', WHERE WHAT IT READS IS OF BULK AT MOST 1048576: true; the input reads as it did. -/
def termsFewestUptoRow : OpenClaim := { program := "ytopmadlgolnmfaa", sum := "0a017869739680ff338002efca3ce9f162adee2bfa69caa47da38ec8a5f0d1a6", func := "newel/newellaw12.TermsFewest", spec := "termsFewest", unfollowed := true, recurses := true, plainKeys := false, apart := false, narrowed := true }
def TermsFewestUptoSaid : Prop := termsFewestUptoRow.holds Try.pinned (OpenSpec.upto termsFewestSpec)

end Rows
end Go.Proofs.Ytopmadlgolnmfaa
