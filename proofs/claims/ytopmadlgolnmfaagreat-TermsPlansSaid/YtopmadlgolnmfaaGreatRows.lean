/-
  No cell of these rows narrows 'for every input' (looked for: loops, veiled, ifaces, maps, wideKeys, modest, calm, conditions, laid).
  DERIVED. THE GIVEN ROWS OF THIS SEAT. 3 by the template 'for every input the law returns true; each argument reads behind the call as it read before'; 0 by the template 'total and deterministic' (their statements: YtopmadlgolnmfaaGreatTotals.lean).
  GIVEN WITH THE SEED: the statements are not yours to turn. If you find one false, say at which input.
  Laid BY PROGRAM, IN A SANDBOX (cutbox-rows.mjs): the forced cells as the released guide's own fill.sh prints them over the translation 34f81641a1bf6e0d… (all of the seat's roots in one cut). By AI agents, Wed Nov 11 2026. No macro, syntax, notation, axiom, sorry.
-/
import Derived.Test.YtopmadlgolnmfaaGreatChecked
import GoSem.Claim
import GoSem.ClaimJoined
import GoSem.ClaimMapViews
import Derived.JoinedTies
import Derived.KernelRfl
namespace Go.Proofs.YtopmadlgolnmfaaGreat
/- THE CELL 'sum', in the pinned program and in every row, IS THE sha256 OF THE DUMP (.gsa) THAT YtopmadlgolnmfaaGreatProg.lean LOADS. Nothing in Lean hashes anything: it is a label: what it is worth is what the hold of that sum in a sandbox is worth. -/
noncomputable def Tryz.pinned : Pinned := { name := "ytopmadlgolnmfaagreat", sum := "34f81641a1bf6e0d04aff8efbd8639270d62505cd8989eff26e823f8c46dd278", checked := Tryz.checked }
namespace Rows
def none {H : Type} : Left H := { results := [], args := [] }

/-- 'newellaw12.TermsJudges': WHATEVER THE INPUT: true; the input reads as it did. -/
def termsJudgesSpec : ChangeSpec := { name := "termsJudges", fn := fun _ => fun
  | [d1, d2] => { results := [.lit (.bool true)], args := [d1, d2] }
  | _ => none }
def termsJudgesRow : OpenClaim := { program := "ytopmadlgolnmfaagreat", sum := "34f81641a1bf6e0d04aff8efbd8639270d62505cd8989eff26e823f8c46dd278", func := "newel/newellaw12.TermsJudges", spec := "termsJudges", unfollowed := true, recurses := true, plainKeys := false, apart := false }
def TermsJudgesSaid : Prop := termsJudgesRow.holds Tryz.pinned (OpenSpec.ofChange termsJudgesSpec)

/-- ITS FALSE NEIGHBOUR: 'it returns false'. Refute it at one input. -/
def termsJudgesWrong : ChangeSpec := { name := "termsJudges", fn := fun _ => fun
  | [d1, d2] => { results := [.lit (.bool false)], args := [d1, d2] }
  | _ => none }
def TermsJudgesWrongFalsely : Prop := termsJudgesRow.holds Tryz.pinned (OpenSpec.ofChange termsJudgesWrong)

/-- 'newellaw12.TermsIdles': WHATEVER THE INPUT: true; the input reads as it did. -/
def termsIdlesSpec : ChangeSpec := { name := "termsIdles", fn := fun _ => fun
  | [d1, d2] => { results := [.lit (.bool true)], args := [d1, d2] }
  | _ => none }
def termsIdlesRow : OpenClaim := { program := "ytopmadlgolnmfaagreat", sum := "34f81641a1bf6e0d04aff8efbd8639270d62505cd8989eff26e823f8c46dd278", func := "newel/newellaw12.TermsIdles", spec := "termsIdles", unfollowed := true, recurses := true, plainKeys := false, apart := false }
def TermsIdlesSaid : Prop := termsIdlesRow.holds Tryz.pinned (OpenSpec.ofChange termsIdlesSpec)

/-- ITS FALSE NEIGHBOUR: 'it returns false'. Refute it at one input. -/
def termsIdlesWrong : ChangeSpec := { name := "termsIdles", fn := fun _ => fun
  | [d1, d2] => { results := [.lit (.bool false)], args := [d1, d2] }
  | _ => none }
def TermsIdlesWrongFalsely : Prop := termsIdlesRow.holds Tryz.pinned (OpenSpec.ofChange termsIdlesWrong)

/-- 'newellaw12.TermsPlans': WHATEVER THE INPUT: true; the input reads as it did. -/
def termsPlansSpec : ChangeSpec := { name := "termsPlans", fn := fun _ => fun
  | [d] => { results := [.lit (.bool true)], args := [d] }
  | _ => none }
def termsPlansRow : OpenClaim := { program := "ytopmadlgolnmfaagreat", sum := "34f81641a1bf6e0d04aff8efbd8639270d62505cd8989eff26e823f8c46dd278", func := "newel/newellaw12.TermsPlans", spec := "termsPlans", unfollowed := true, recurses := true, plainKeys := false, apart := false }
def TermsPlansSaid : Prop := termsPlansRow.holds Tryz.pinned (OpenSpec.ofChange termsPlansSpec)

/-- ITS FALSE NEIGHBOUR: 'it returns false'. Refute it at one input. -/
def termsPlansWrong : ChangeSpec := { name := "termsPlans", fn := fun _ => fun
  | [d] => { results := [.lit (.bool false)], args := [d] }
  | _ => none }
def TermsPlansWrongFalsely : Prop := termsPlansRow.holds Tryz.pinned (OpenSpec.ofChange termsPlansWrong)

/- THE SECOND FORM. 'bulk': how many values and letters a reading holds, each counted each time it is reached (what is shared counts as often as it is met; a slice's spare places count too). A statement '..UptoSaid' is the law's where the arguments, and the package variables that the reading takes, are together of bulk at most 1048576: NARROWER than '..Said'. Prove '..Said' where nothing that the law and all that it calls make is longer than what came in: it says more and counts as full. Else prove '..UptoSaid'. A law counts once. -/
mutual
def uptoBulk {H : Type} : DataW H → Nat
  | .lit (.string bytes) => bytes.length + 1
  | .lit _ => 1
  | .nil => 1
  | .ptr d => uptoBulk d + 1
  | .slice elems spare => uptoBulkAll elems + uptoBulkAll spare + 1
  | .agg parts => uptoBulkAll parts + 1
  | .iface _ d => uptoBulk d + 1
  | .map entries => uptoBulkEntries entries + 1
  | .held _ => 1
def uptoBulkAll {H : Type} : List (DataW H) → Nat
  | [] => 0
  | d :: r => uptoBulk d + uptoBulkAll r
def uptoBulkEntries {H : Type} : List (Lit × DataW H) → Nat
  | [] => 0
  | x :: r => uptoBulkEntry x + uptoBulkEntries r
def uptoBulkEntry {H : Type} : Lit × DataW H → Nat
  | (.string bytes, d) => bytes.length + uptoBulk d + 1
  | (_, d) => uptoBulk d + 1
 end
def uptoSmall : (H : Type) → List (DataW H) → Bool := fun _ ds => decide (uptoBulkAll ds ≤ 1048576)
def OpenSpec.upto (s : _root_.Go.ChangeSpec) : _root_.Go.OpenSpec := { _root_.Go.OpenSpec.ofChange s with cond := some uptoSmall }

/-- 'newellaw12.TermsJudges', WHERE WHAT IT READS IS OF BULK AT MOST 1048576: true; the input reads as it did. -/
def termsJudgesUptoRow : OpenClaim := { program := "ytopmadlgolnmfaagreat", sum := "34f81641a1bf6e0d04aff8efbd8639270d62505cd8989eff26e823f8c46dd278", func := "newel/newellaw12.TermsJudges", spec := "termsJudges", unfollowed := true, recurses := true, plainKeys := false, apart := false, narrowed := true }
def TermsJudgesUptoSaid : Prop := termsJudgesUptoRow.holds Tryz.pinned (OpenSpec.upto termsJudgesSpec)

/-- 'newellaw12.TermsIdles', WHERE WHAT IT READS IS OF BULK AT MOST 1048576: true; the input reads as it did. -/
def termsIdlesUptoRow : OpenClaim := { program := "ytopmadlgolnmfaagreat", sum := "34f81641a1bf6e0d04aff8efbd8639270d62505cd8989eff26e823f8c46dd278", func := "newel/newellaw12.TermsIdles", spec := "termsIdles", unfollowed := true, recurses := true, plainKeys := false, apart := false, narrowed := true }
def TermsIdlesUptoSaid : Prop := termsIdlesUptoRow.holds Tryz.pinned (OpenSpec.upto termsIdlesSpec)

/-- 'newellaw12.TermsPlans', WHERE WHAT IT READS IS OF BULK AT MOST 1048576: true; the input reads as it did. -/
def termsPlansUptoRow : OpenClaim := { program := "ytopmadlgolnmfaagreat", sum := "34f81641a1bf6e0d04aff8efbd8639270d62505cd8989eff26e823f8c46dd278", func := "newel/newellaw12.TermsPlans", spec := "termsPlans", unfollowed := true, recurses := true, plainKeys := false, apart := false, narrowed := true }
def TermsPlansUptoSaid : Prop := termsPlansUptoRow.holds Tryz.pinned (OpenSpec.upto termsPlansSpec)

end Rows
end Go.Proofs.YtopmadlgolnmfaaGreat
