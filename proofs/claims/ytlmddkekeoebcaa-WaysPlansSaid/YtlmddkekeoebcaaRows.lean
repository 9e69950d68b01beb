/-
  No cell of these rows narrows 'for every input' (looked for: loops, veiled, ifaces, maps, wideKeys, modest, calm, conditions, laid).
  DERIVED. THE GIVEN ROWS OF THIS SEAT. 12 by the template 'for every input the law returns true; each argument reads behind the call as it read before'; 0 by the template 'total and deterministic' (their statements: YtlmddkekeoebcaaTotals.lean).
  GIVEN WITH THE SEED: the statements are not yours to turn. If you find one false, say at which input.
  Laid BY PROGRAM, IN A SANDBOX (cutbox-rows.mjs): the forced cells as the released guide's own fill.sh prints them over the translation ec247b1e28625d37… (all of the seat's roots in one cut). By AI agents, Wed Nov 11 2026. No macro, syntax, notation, axiom, sorry.
-/
import Derived.Test.YtlmddkekeoebcaaChecked
import GoSem.Claim
import GoSem.ClaimJoined
import GoSem.ClaimMapViews
import Derived.JoinedTies
import Derived.KernelRfl
namespace Go.Proofs.Ytlmddkekeoebcaa
/- THE CELL 'sum', in the pinned program and in every row, IS THE sha256 OF THE DUMP (.gsa) THAT YtlmddkekeoebcaaProg.lean LOADS. Nothing in Lean hashes anything: it is a label: what it is worth is what the hold of that sum in a sandbox is worth. -/
noncomputable def Try.pinned : Pinned := { name := "ytlmddkekeoebcaa", sum := "ec247b1e28625d3791f0d735b2d3efc545a495befa1f68c7804fdf6aaee86e36", checked := Try.checked }
namespace Rows
def none {H : Type} : Left H := { results := [], args := [] }

/-- 'newellaw08.WaysParts': WHATEVER THE INPUT: true; the input reads as it did. -/
def waysPartsSpec : ChangeSpec := { name := "waysParts", fn := fun _ => fun
  | [d1, d2, d3] => { results := [.lit (.bool true)], args := [d1, d2, d3] }
  | _ => none }
def waysPartsRow : OpenClaim := { program := "ytlmddkekeoebcaa", sum := "ec247b1e28625d3791f0d735b2d3efc545a495befa1f68c7804fdf6aaee86e36", func := "newel/newellaw08.WaysParts", spec := "waysParts", unfollowed := true, recurses := true, plainKeys := false, apart := false }
def WaysPartsSaid : Prop := waysPartsRow.holds Try.pinned (OpenSpec.ofChange waysPartsSpec)

/-- ITS FALSE NEIGHBOUR: 'it returns false'. Refute it at one input. -/
def waysPartsWrong : ChangeSpec := { name := "waysParts", fn := fun _ => fun
  | [d1, d2, d3] => { results := [.lit (.bool false)], args := [d1, d2, d3] }
  | _ => none }
def WaysPartsWrongFalsely : Prop := waysPartsRow.holds Try.pinned (OpenSpec.ofChange waysPartsWrong)

/-- 'newellaw08.WaysFinds': WHATEVER THE INPUT: true; the input reads as it did. -/
def waysFindsSpec : ChangeSpec := { name := "waysFinds", fn := fun _ => fun
  | [d1, d2] => { results := [.lit (.bool true)], args := [d1, d2] }
  | _ => none }
def waysFindsRow : OpenClaim := { program := "ytlmddkekeoebcaa", sum := "ec247b1e28625d3791f0d735b2d3efc545a495befa1f68c7804fdf6aaee86e36", func := "newel/newellaw08.WaysFinds", spec := "waysFinds", unfollowed := true, recurses := true, plainKeys := false, apart := false }
def WaysFindsSaid : Prop := waysFindsRow.holds Try.pinned (OpenSpec.ofChange waysFindsSpec)

/-- ITS FALSE NEIGHBOUR: 'it returns false'. Refute it at one input. -/
def waysFindsWrong : ChangeSpec := { name := "waysFinds", fn := fun _ => fun
  | [d1, d2] => { results := [.lit (.bool false)], args := [d1, d2] }
  | _ => none }
def WaysFindsWrongFalsely : Prop := waysFindsRow.holds Try.pinned (OpenSpec.ofChange waysFindsWrong)

/-- 'newellaw08.WaysShortest': WHATEVER THE INPUT: true; the input reads as it did. -/
def waysShortestSpec : ChangeSpec := { name := "waysShortest", fn := fun _ => fun
  | [d1, d2, d3] => { results := [.lit (.bool true)], args := [d1, d2, d3] }
  | _ => none }
def waysShortestRow : OpenClaim := { program := "ytlmddkekeoebcaa", sum := "ec247b1e28625d3791f0d735b2d3efc545a495befa1f68c7804fdf6aaee86e36", func := "newel/newellaw08.WaysShortest", spec := "waysShortest", unfollowed := true, recurses := true, plainKeys := false, apart := false }
def WaysShortestSaid : Prop := waysShortestRow.holds Try.pinned (OpenSpec.ofChange waysShortestSpec)

/-- ITS FALSE NEIGHBOUR: 'it returns false'. Refute it at one input. -/
def waysShortestWrong : ChangeSpec := { name := "waysShortest", fn := fun _ => fun
  | [d1, d2, d3] => { results := [.lit (.bool false)], args := [d1, d2, d3] }
  | _ => none }
def WaysShortestWrongFalsely : Prop := waysShortestRow.holds Try.pinned (OpenSpec.ofChange waysShortestWrong)

/-- 'newellaw08.WaysOut': WHATEVER THE INPUT: true; the input reads as it did. -/
def waysOutSpec : ChangeSpec := { name := "waysOut", fn := fun _ => fun
  | [d1, d2, d3] => { results := [.lit (.bool true)], args := [d1, d2, d3] }
  | _ => none }
def waysOutRow : OpenClaim := { program := "ytlmddkekeoebcaa", sum := "ec247b1e28625d3791f0d735b2d3efc545a495befa1f68c7804fdf6aaee86e36", func := "newel/newellaw08.WaysOut", spec := "waysOut", unfollowed := true, recurses := true, plainKeys := false, apart := false }
def WaysOutSaid : Prop := waysOutRow.holds Try.pinned (OpenSpec.ofChange waysOutSpec)

/-- ITS FALSE NEIGHBOUR: 'it returns false'. Refute it at one input. -/
def waysOutWrong : ChangeSpec := { name := "waysOut", fn := fun _ => fun
  | [d1, d2, d3] => { results := [.lit (.bool false)], args := [d1, d2, d3] }
  | _ => none }
def WaysOutWrongFalsely : Prop := waysOutRow.holds Try.pinned (OpenSpec.ofChange waysOutWrong)

/-- 'newellaw08.WaysCuts': WHATEVER THE INPUT: true; the input reads as it did. -/
def waysCutsSpec : ChangeSpec := { name := "waysCuts", fn := fun _ => fun
  | [d1, d2, d3] => { results := [.lit (.bool true)], args := [d1, d2, d3] }
  | _ => none }
def waysCutsRow : OpenClaim := { program := "ytlmddkekeoebcaa", sum := "ec247b1e28625d3791f0d735b2d3efc545a495befa1f68c7804fdf6aaee86e36", func := "newel/newellaw08.WaysCuts", spec := "waysCuts", unfollowed := true, recurses := true, plainKeys := false, apart := false }
def WaysCutsSaid : Prop := waysCutsRow.holds Try.pinned (OpenSpec.ofChange waysCutsSpec)

/-- ITS FALSE NEIGHBOUR: 'it returns false'. Refute it at one input. -/
def waysCutsWrong : ChangeSpec := { name := "waysCuts", fn := fun _ => fun
  | [d1, d2, d3] => { results := [.lit (.bool false)], args := [d1, d2, d3] }
  | _ => none }
def WaysCutsWrongFalsely : Prop := waysCutsRow.holds Try.pinned (OpenSpec.ofChange waysCutsWrong)

/-- 'newellaw08.WaysLeaves': WHATEVER THE INPUT: true; the input reads as it did. -/
def waysLeavesSpec : ChangeSpec := { name := "waysLeaves", fn := fun _ => fun
  | [d1, d2] => { results := [.lit (.bool true)], args := [d1, d2] }
  | _ => none }
def waysLeavesRow : OpenClaim := { program := "ytlmddkekeoebcaa", sum := "ec247b1e28625d3791f0d735b2d3efc545a495befa1f68c7804fdf6aaee86e36", func := "newel/newellaw08.WaysLeaves", spec := "waysLeaves", unfollowed := true, recurses := true, plainKeys := false, apart := false }
def WaysLeavesSaid : Prop := waysLeavesRow.holds Try.pinned (OpenSpec.ofChange waysLeavesSpec)

/-- ITS FALSE NEIGHBOUR: 'it returns false'. Refute it at one input. -/
def waysLeavesWrong : ChangeSpec := { name := "waysLeaves", fn := fun _ => fun
  | [d1, d2] => { results := [.lit (.bool false)], args := [d1, d2] }
  | _ => none }
def WaysLeavesWrongFalsely : Prop := waysLeavesRow.holds Try.pinned (OpenSpec.ofChange waysLeavesWrong)

/-- 'newellaw08.WaysMore': WHATEVER THE INPUT: true; the input reads as it did. -/
def waysMoreSpec : ChangeSpec := { name := "waysMore", fn := fun _ => fun
  | [d1, d2, d3] => { results := [.lit (.bool true)], args := [d1, d2, d3] }
  | _ => none }
def waysMoreRow : OpenClaim := { program := "ytlmddkekeoebcaa", sum := "ec247b1e28625d3791f0d735b2d3efc545a495befa1f68c7804fdf6aaee86e36", func := "newel/newellaw08.WaysMore", spec := "waysMore", unfollowed := true, recurses := true, plainKeys := false, apart := false }
def WaysMoreSaid : Prop := waysMoreRow.holds Try.pinned (OpenSpec.ofChange waysMoreSpec)

/-- ITS FALSE NEIGHBOUR: 'it returns false'. Refute it at one input. -/
def waysMoreWrong : ChangeSpec := { name := "waysMore", fn := fun _ => fun
  | [d1, d2, d3] => { results := [.lit (.bool false)], args := [d1, d2, d3] }
  | _ => none }
def WaysMoreWrongFalsely : Prop := waysMoreRow.holds Try.pinned (OpenSpec.ofChange waysMoreWrong)

/-- 'newellaw08.WaysPromises': WHATEVER THE INPUT: true; the input reads as it did. -/
def waysPromisesSpec : ChangeSpec := { name := "waysPromises", fn := fun _ => fun
  | [d1, d2, d3] => { results := [.lit (.bool true)], args := [d1, d2, d3] }
  | _ => none }
def waysPromisesRow : OpenClaim := { program := "ytlmddkekeoebcaa", sum := "ec247b1e28625d3791f0d735b2d3efc545a495befa1f68c7804fdf6aaee86e36", func := "newel/newellaw08.WaysPromises", spec := "waysPromises", unfollowed := true, recurses := true, plainKeys := false, apart := false }
def WaysPromisesSaid : Prop := waysPromisesRow.holds Try.pinned (OpenSpec.ofChange waysPromisesSpec)

/-- ITS FALSE NEIGHBOUR: 'it returns false'. Refute it at one input. -/
def waysPromisesWrong : ChangeSpec := { name := "waysPromises", fn := fun _ => fun
  | [d1, d2, d3] => { results := [.lit (.bool false)], args := [d1, d2, d3] }
  | _ => none }
def WaysPromisesWrongFalsely : Prop := waysPromisesRow.holds Try.pinned (OpenSpec.ofChange waysPromisesWrong)

/-- 'newellaw08.WaysKeeps': WHATEVER THE INPUT: true; the input reads as it did. -/
def waysKeepsSpec : ChangeSpec := { name := "waysKeeps", fn := fun _ => fun
  | [d1, d2, d3] => { results := [.lit (.bool true)], args := [d1, d2, d3] }
  | _ => none }
def waysKeepsRow : OpenClaim := { program := "ytlmddkekeoebcaa", sum := "ec247b1e28625d3791f0d735b2d3efc545a495befa1f68c7804fdf6aaee86e36", func := "newel/newellaw08.WaysKeeps", spec := "waysKeeps", unfollowed := true, recurses := true, plainKeys := false, apart := false }
def WaysKeepsSaid : Prop := waysKeepsRow.holds Try.pinned (OpenSpec.ofChange waysKeepsSpec)

/-- ITS FALSE NEIGHBOUR: 'it returns false'. Refute it at one input. -/
def waysKeepsWrong : ChangeSpec := { name := "waysKeeps", fn := fun _ => fun
  | [d1, d2, d3] => { results := [.lit (.bool false)], args := [d1, d2, d3] }
  | _ => none }
def WaysKeepsWrongFalsely : Prop := waysKeepsRow.holds Try.pinned (OpenSpec.ofChange waysKeepsWrong)

/-- 'newellaw08.WaysPlans': WHATEVER THE INPUT: true; the input reads as it did. -/
def waysPlansSpec : ChangeSpec := { name := "waysPlans", fn := fun _ => fun
  | [d1, d2, d3] => { results := [.lit (.bool true)], args := [d1, d2, d3] }
  | _ => none }
def waysPlansRow : OpenClaim := { program := "ytlmddkekeoebcaa", sum := "ec247b1e28625d3791f0d735b2d3efc545a495befa1f68c7804fdf6aaee86e36", func := "newel/newellaw08.WaysPlans", spec := "waysPlans", unfollowed := true, recurses := true, plainKeys := false, apart := false }
def WaysPlansSaid : Prop := waysPlansRow.holds Try.pinned (OpenSpec.ofChange waysPlansSpec)

/-- ITS FALSE NEIGHBOUR: 'it returns false'. Refute it at one input. -/
def waysPlansWrong : ChangeSpec := { name := "waysPlans", fn := fun _ => fun
  | [d1, d2, d3] => { results := [.lit (.bool false)], args := [d1, d2, d3] }
  | _ => none }
def WaysPlansWrongFalsely : Prop := waysPlansRow.holds Try.pinned (OpenSpec.ofChange waysPlansWrong)

/-- 'newellaw08.WaysStops': WHATEVER THE INPUT: true; the input reads as it did. -/
def waysStopsSpec : ChangeSpec := { name := "waysStops", fn := fun _ => fun
  | [d1, d2] => { results := [.lit (.bool true)], args := [d1, d2] }
  | _ => none }
def waysStopsRow : OpenClaim := { program := "ytlmddkekeoebcaa", sum := "ec247b1e28625d3791f0d735b2d3efc545a495befa1f68c7804fdf6aaee86e36", func := "newel/newellaw08.WaysStops", spec := "waysStops", unfollowed := true, recurses := true, plainKeys := false, apart := false }
def WaysStopsSaid : Prop := waysStopsRow.holds Try.pinned (OpenSpec.ofChange waysStopsSpec)

/-- ITS FALSE NEIGHBOUR: 'it returns false'. Refute it at one input. -/
def waysStopsWrong : ChangeSpec := { name := "waysStops", fn := fun _ => fun
  | [d1, d2] => { results := [.lit (.bool false)], args := [d1, d2] }
  | _ => none }
def WaysStopsWrongFalsely : Prop := waysStopsRow.holds Try.pinned (OpenSpec.ofChange waysStopsWrong)

/-- 'newellaw08.WaysSafes': WHATEVER THE INPUT: true; the input reads as it did. -/
def waysSafesSpec : ChangeSpec := { name := "waysSafes", fn := fun _ => fun
  | [d1, d2, d3] => { results := [.lit (.bool true)], args := [d1, d2, d3] }
  | _ => none }
def waysSafesRow : OpenClaim := { program := "ytlmddkekeoebcaa", sum := "ec247b1e28625d3791f0d735b2d3efc545a495befa1f68c7804fdf6aaee86e36", func := "newel/newellaw08.WaysSafes", spec := "waysSafes", unfollowed := true, recurses := true, plainKeys := false, apart := false }
def WaysSafesSaid : Prop := waysSafesRow.holds Try.pinned (OpenSpec.ofChange waysSafesSpec)

/-- ITS FALSE NEIGHBOUR: 'it returns false'. Refute it at one input. -/
def waysSafesWrong : ChangeSpec := { name := "waysSafes", fn := fun _ => fun
  | [d1, d2, d3] => { results := [.lit (.bool false)], args := [d1, d2, d3] }
  | _ => none }
def WaysSafesWrongFalsely : Prop := waysSafesRow.holds Try.pinned (OpenSpec.ofChange waysSafesWrong)

/- THE SECOND FORM. 'bulk': how many values and letters a reading holds, each counted each time it is reached (what is shared counts as often as it is met; a slice's spare places count too). A statement '..UptoSaid' is the law's where the arguments, and the package variables that the reading takes, are together of bulk at most 1048576: NARROWER than '..Said'. Prove '..Said' where nothing that the law and all that it calls make is longer than what came in: it says more and counts as full. Else prove '..UptoSaid'. A law counts once. -/
mutual
def uptoBulk {H : Type} : DataW H → Nat
  | .lit (.string bytes) => bytes.length + 1
  | .lit _ => 1
  | .nil => 1
  | .ptr d => uptoBulk d + 1
  | .slice elems spare => uptoBulkAll elems + uptoBulkAll spare + 1
  | .agg parts => uptoBulkAll parts + 1
  | .iface _ d => uptoBulk d + 1
  | .map entries => uptoBulkEntries entries + 1
  | .held _ => 1
def uptoBulkAll {H : Type} : List (DataW H) → Nat
  | [] => 0
  | d :: r => uptoBulk d + uptoBulkAll r
def uptoBulkEntries {H : Type} : List (Lit × DataW H) → Nat
  | [] => 0
  | x :: r => uptoBulkEntry x + uptoBulkEntries r
def uptoBulkEntry {H : Type} : Lit × DataW H → Nat
  | (.string bytes, d) => bytes.length + uptoBulk d + 1
  | (_, d) => uptoBulk d + 1
 end
def uptoSmall : (H : Type) → List (DataW H) → Bool := fun _ ds => decide (uptoBulkAll ds ≤ 1048576)
def OpenSpec.upto (s : _root_.Go.ChangeSpec) : _root_.Go.OpenSpec := { _root_.Go.OpenSpec.ofChange s with cond := some uptoSmall }

/-- 'newellaw08.WaysParts', WHERE WHAT IT READS IS OF BULK AT MOST 1048576: true; the input reads as it did. -/
def waysPartsUptoRow : OpenClaim := { program := "ytlmddkekeoebcaa", sum := "ec247b1e28625d3791f0d735b2d3efc545a495befa1f68c7804fdf6aaee86e36", func := "newel/newellaw08.WaysParts", spec := "waysParts", unfollowed := true, recurses := true, plainKeys := false, apart := false, narrowed := true }
def WaysPartsUptoSaid : Prop := waysPartsUptoRow.holds Try.pinned (OpenSpec.upto waysPartsSpec)

/-- 'newellaw08.WaysFinds', WHERE WHAT IT READS IS OF BULK AT MOST 1048576: true; the input reads as it did. -/
def waysFindsUptoRow : OpenClaim := { program := "ytlmddkekeoebcaa", sum := "ec247b1e28625d3791f0d735b2d3efc545a495befa1f68c7804fdf6aaee86e36", func := "newel/newellaw08.WaysFinds", spec := "waysFinds", unfollowed := true, recurses := true, plainKeys := false, apart := false, narrowed := true }
def WaysFindsUptoSaid : Prop := waysFindsUptoRow.holds Try.pinned (OpenSpec.upto waysFindsSpec)

/-- 'newellaw08.WaysShortest', WHERE WHAT IT READS IS OF BULK AT MOST 1048576: true; the input reads as it did. -/
def waysShortestUptoRow : OpenClaim := { program := "ytlmddkekeoebcaa", sum := "ec247b1e28625d3791f0d735b2d3efc545a495befa1f68c7804fdf6aaee86e36", func := "newel/newellaw08.WaysShortest", spec := "waysShortest", unfollowed := true, recurses := true, plainKeys := false, apart := false, narrowed := true }
def WaysShortestUptoSaid : Prop := waysShortestUptoRow.holds Try.pinned (OpenSpec.upto waysShortestSpec)

/-- 'newellaw08.WaysOut', WHERE WHAT IT READS IS OF BULK AT MOST 1048576: true; the input reads as it did. -/
def waysOutUptoRow : OpenClaim := { program := "ytlmddkekeoebcaa", sum := "ec247b1e28625d3791f0d735b2d3efc545a495befa1f68c7804fdf6aaee86e36", func := "newel/newellaw08.WaysOut", spec := "waysOut", unfollowed := true, recurses := true, plainKeys := false, apart := false, narrowed := true }
def WaysOutUptoSaid : Prop := waysOutUptoRow.holds Try.pinned (OpenSpec.upto waysOutSpec)

/-- 'newellaw08.WaysCuts', WHERE WHAT IT READS IS OF BULK AT MOST 1048576: true; the input reads as it did. -/
def waysCutsUptoRow : OpenClaim := { program := "ytlmddkekeoebcaa", sum := "ec247b1e28625d3791f0d735b2d3efc545a495befa1f68c7804fdf6aaee86e36", func := "newel/newellaw08.WaysCuts", spec := "waysCuts", unfollowed := true, recurses := true, plainKeys := false, apart := false, narrowed := true }
def WaysCutsUptoSaid : Prop := waysCutsUptoRow.holds Try.pinned (OpenSpec.upto waysCutsSpec)

/-- 'newellaw08.WaysLeaves', WHERE WHAT IT READS IS OF BULK AT MOST 1048576: true; the input reads as it did. -/
def waysLeavesUptoRow : OpenClaim := { program := "ytlmddkekeoebcaa", sum := "ec247b1e28625d3791f0d735b2d3efc545a495befa1f68c7804fdf6aaee86e36", func := "newel/newellaw08.WaysLeaves", spec := "waysLeaves", unfollowed := true, recurses := true, plainKeys := false, apart := false, narrowed := true }
def WaysLeavesUptoSaid : Prop := waysLeavesUptoRow.holds Try.pinned (OpenSpec.upto waysLeavesSpec)

/-- 'newellaw08.WaysMore', WHERE WHAT IT READS IS OF BULK AT MOST 1048576: true; the input reads as it did. -/
def waysMoreUptoRow : OpenClaim := { program := "ytlmddkekeoebcaa", sum := "ec247b1e28625d3791f0d735b2d3efc545a495befa1f68c7804fdf6aaee86e36", func := "newel/newellaw08.WaysMore", spec := "waysMore", unfollowed := true, recurses := true, plainKeys := false, apart := false, narrowed := true }
def WaysMoreUptoSaid : Prop := waysMoreUptoRow.holds Try.pinned (OpenSpec.upto waysMoreSpec)

/-- 'newellaw08.WaysPromises', WHERE WHAT IT READS IS OF BULK AT MOST 1048576: true; the input reads as it did. -/
def waysPromisesUptoRow : OpenClaim := { program := "ytlmddkekeoebcaa", sum := "ec247b1e28625d3791f0d735b2d3efc545a495befa1f68c7804fdf6aaee86e36", func := "newel/newellaw08.WaysPromises", spec := "waysPromises", unfollowed := true, recurses := true, plainKeys := false, apart := false, narrowed := true }
def WaysPromisesUptoSaid : Prop := waysPromisesUptoRow.holds Try.pinned (OpenSpec.upto waysPromisesSpec)

/-- 'newellaw08.WaysKeeps', WHERE WHAT IT READS IS OF BULK AT MOST 1048576: true; the input reads as it did. -/
def waysKeepsUptoRow : OpenClaim := { program := "ytlmddkekeoebcaa", sum := "ec247b1e28625d3791f0d735b2d3efc545a495befa1f68c7804fdf6aaee86e36", func := "newel/newellaw08.WaysKeeps", spec := "waysKeeps", unfollowed := true, recurses := true, plainKeys := false, apart := false, narrowed := true }
def WaysKeepsUptoSaid : Prop := waysKeepsUptoRow.holds Try.pinned (OpenSpec.upto waysKeepsSpec)

/-- 'newellaw08.WaysPlans', WHERE WHAT IT READS IS OF BULK AT MOST 1048576: true; the input reads as it did. -/
def waysPlansUptoRow : OpenClaim := { program := "ytlmddkekeoebcaa", sum := "ec247b1e28625d3791f0d735b2d3efc545a495befa1f68c7804fdf6aaee86e36", func := "newel/newellaw08.WaysPlans", spec := "waysPlans", unfollowed := true, recurses := true, plainKeys := false, apart := false, narrowed := true }
def WaysPlansUptoSaid : Prop := waysPlansUptoRow.holds Try.pinned (OpenSpec.upto waysPlansSpec)

/-- 'newellaw08.WaysStops', WHERE WHAT IT READS IS OF BULK AT MOST 1048576: true; the input reads as it did. -/
def waysStopsUptoRow : OpenClaim := { program := "ytlmddkekeoebcaa", sum := "ec247b1e28625d3791f0d735b2d3efc545a495befa1f68c7804fdf6aaee86e36", func := "newel/newellaw08.WaysStops", spec := "waysStops", unfollowed := true, recurses := true, plainKeys := false, apart := false, narrowed := true }
def WaysStopsUptoSaid : Prop := waysStopsUptoRow.holds Try.pinned (OpenSpec.upto waysStopsSpec)

/-- 'newellaw08.WaysSafes', WHERE WHAT IT READS IS OF BULK AT MOST 1048576: true; the input reads as it did. -/
def waysSafesUptoRow : OpenClaim := { program := "ytlmddkekeoebcaa", sum := "ec247b1e28625d3791f0d735b2d3efc545a495befa1f68c7804fdf6aaee86e36", func := "newel/newellaw08.WaysSafes", spec := "waysSafes", unfollowed := true, recurses := true, plainKeys := false, apart := false, narrowed := true }
def WaysSafesUptoSaid : Prop := waysSafesUptoRow.holds Try.pinned (OpenSpec.upto waysSafesSpec)

end Rows
end Go.Proofs.Ytlmddkekeoebcaa
