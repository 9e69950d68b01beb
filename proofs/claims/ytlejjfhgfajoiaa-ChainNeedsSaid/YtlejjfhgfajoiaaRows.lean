/-
  No cell of these rows narrows 'for every input' (looked for: loops, veiled, ifaces, maps, wideKeys, modest, calm, conditions, laid).
  DERIVED. THE GIVEN ROWS OF THIS SEAT. 14 by the template 'for every input the law returns true; each argument reads behind the call as it read before'; 0 by the template 'total and deterministic' (their statements: YtlejjfhgfajoiaaTotals.lean).
  GIVEN WITH THE SEED: the statements are not yours to turn. If you find one false, say at which input.
  Laid BY PROGRAM, IN A SANDBOX (cutbox-rows.mjs): the forced cells as the released guide's own fill.sh prints them over the translation 04c4b9d6de5e3ee6… (all of the seat's roots in one cut). By AI agents, Wed Nov 11 2026. No macro, syntax, notation, axiom, sorry.
-/
import Derived.Test.YtlejjfhgfajoiaaChecked
import GoSem.Claim
import GoSem.ClaimJoined
import GoSem.ClaimMapViews
import Derived.JoinedTies
import Derived.KernelRfl
namespace Go.Proofs.Ytlejjfhgfajoiaa
/- THE CELL 'sum', in the pinned program and in every row, IS THE sha256 OF THE DUMP (.gsa) THAT YtlejjfhgfajoiaaProg.lean LOADS. Nothing in Lean hashes anything: it is a label: what it is worth is what the hold of that sum in a sandbox is worth. -/
noncomputable def Try.pinned : Pinned := { name := "ytlejjfhgfajoiaa", sum := "04c4b9d6de5e3ee602638f4bddbbce3a61796a4bb611180fd7a66253206b3312", checked := Try.checked }
namespace Rows
def none {H : Type} : Left H := { results := [], args := [] }

/-- 'newellaw02.ChainWitness': WHATEVER THE INPUT: true; the input reads as it did. -/
def chainWitnessSpec : ChangeSpec := { name := "chainWitness", fn := fun _ => fun
  | [d1, d2, d3] => { results := [.lit (.bool true)], args := [d1, d2, d3] }
  | _ => none }
def chainWitnessRow : OpenClaim := { program := "ytlejjfhgfajoiaa", sum := "04c4b9d6de5e3ee602638f4bddbbce3a61796a4bb611180fd7a66253206b3312", func := "newel/newellaw02.ChainWitness", spec := "chainWitness", unfollowed := true, recurses := true, apart := false }
def ChainWitnessSaid : Prop := chainWitnessRow.holds Try.pinned (OpenSpec.ofChange chainWitnessSpec)

/-- ITS FALSE NEIGHBOUR: 'it returns false'. Refute it at one input. -/
def chainWitnessWrong : ChangeSpec := { name := "chainWitness", fn := fun _ => fun
  | [d1, d2, d3] => { results := [.lit (.bool false)], args := [d1, d2, d3] }
  | _ => none }
def ChainWitnessWrongFalsely : Prop := chainWitnessRow.holds Try.pinned (OpenSpec.ofChange chainWitnessWrong)

/-- 'newellaw02.ChainLinks': WHATEVER THE INPUT: true; the input reads as it did. -/
def chainLinksSpec : ChangeSpec := { name := "chainLinks", fn := fun _ => fun
  | [d1, d2, d3] => { results := [.lit (.bool true)], args := [d1, d2, d3] }
  | _ => none }
def chainLinksRow : OpenClaim := { program := "ytlejjfhgfajoiaa", sum := "04c4b9d6de5e3ee602638f4bddbbce3a61796a4bb611180fd7a66253206b3312", func := "newel/newellaw02.ChainLinks", spec := "chainLinks", unfollowed := true, recurses := true, apart := false }
def ChainLinksSaid : Prop := chainLinksRow.holds Try.pinned (OpenSpec.ofChange chainLinksSpec)

/-- ITS FALSE NEIGHBOUR: 'it returns false'. Refute it at one input. -/
def chainLinksWrong : ChangeSpec := { name := "chainLinks", fn := fun _ => fun
  | [d1, d2, d3] => { results := [.lit (.bool false)], args := [d1, d2, d3] }
  | _ => none }
def ChainLinksWrongFalsely : Prop := chainLinksRow.holds Try.pinned (OpenSpec.ofChange chainLinksWrong)

/-- 'newellaw02.ChainNarrows': WHATEVER THE INPUT: true; the input reads as it did. -/
def chainNarrowsSpec : ChangeSpec := { name := "chainNarrows", fn := fun _ => fun
  | [d1, d2, d3] => { results := [.lit (.bool true)], args := [d1, d2, d3] }
  | _ => none }
def chainNarrowsRow : OpenClaim := { program := "ytlejjfhgfajoiaa", sum := "04c4b9d6de5e3ee602638f4bddbbce3a61796a4bb611180fd7a66253206b3312", func := "newel/newellaw02.ChainNarrows", spec := "chainNarrows", unfollowed := true, recurses := true, apart := false }
def ChainNarrowsSaid : Prop := chainNarrowsRow.holds Try.pinned (OpenSpec.ofChange chainNarrowsSpec)

/-- ITS FALSE NEIGHBOUR: 'it returns false'. Refute it at one input. -/
def chainNarrowsWrong : ChangeSpec := { name := "chainNarrows", fn := fun _ => fun
  | [d1, d2, d3] => { results := [.lit (.bool false)], args := [d1, d2, d3] }
  | _ => none }
def ChainNarrowsWrongFalsely : Prop := chainNarrowsRow.holds Try.pinned (OpenSpec.ofChange chainNarrowsWrong)

/-- 'newellaw02.ChainLongest': WHATEVER THE INPUT: true; the input reads as it did. -/
def chainLongestSpec : ChangeSpec := { name := "chainLongest", fn := fun _ => fun
  | [d1, d2, d3] => { results := [.lit (.bool true)], args := [d1, d2, d3] }
  | _ => none }
def chainLongestRow : OpenClaim := { program := "ytlejjfhgfajoiaa", sum := "04c4b9d6de5e3ee602638f4bddbbce3a61796a4bb611180fd7a66253206b3312", func := "newel/newellaw02.ChainLongest", spec := "chainLongest", unfollowed := true, recurses := true, apart := false }
def ChainLongestSaid : Prop := chainLongestRow.holds Try.pinned (OpenSpec.ofChange chainLongestSpec)

/-- ITS FALSE NEIGHBOUR: 'it returns false'. Refute it at one input. -/
def chainLongestWrong : ChangeSpec := { name := "chainLongest", fn := fun _ => fun
  | [d1, d2, d3] => { results := [.lit (.bool false)], args := [d1, d2, d3] }
  | _ => none }
def ChainLongestWrongFalsely : Prop := chainLongestRow.holds Try.pinned (OpenSpec.ofChange chainLongestWrong)

/-- 'newellaw02.ChainEach': WHATEVER THE INPUT: true; the input reads as it did. -/
def chainEachSpec : ChangeSpec := { name := "chainEach", fn := fun _ => fun
  | [d1, d2, d3] => { results := [.lit (.bool true)], args := [d1, d2, d3] }
  | _ => none }
def chainEachRow : OpenClaim := { program := "ytlejjfhgfajoiaa", sum := "04c4b9d6de5e3ee602638f4bddbbce3a61796a4bb611180fd7a66253206b3312", func := "newel/newellaw02.ChainEach", spec := "chainEach", unfollowed := true, recurses := true, apart := false }
def ChainEachSaid : Prop := chainEachRow.holds Try.pinned (OpenSpec.ofChange chainEachSpec)

/-- ITS FALSE NEIGHBOUR: 'it returns false'. Refute it at one input. -/
def chainEachWrong : ChangeSpec := { name := "chainEach", fn := fun _ => fun
  | [d1, d2, d3] => { results := [.lit (.bool false)], args := [d1, d2, d3] }
  | _ => none }
def ChainEachWrongFalsely : Prop := chainEachRow.holds Try.pinned (OpenSpec.ofChange chainEachWrong)

/-- 'newellaw02.ChainSkews': WHATEVER THE INPUT: true; the input reads as it did. -/
def chainSkewsSpec : ChangeSpec := { name := "chainSkews", fn := fun _ => fun
  | [d1, d2, d3] => { results := [.lit (.bool true)], args := [d1, d2, d3] }
  | _ => none }
def chainSkewsRow : OpenClaim := { program := "ytlejjfhgfajoiaa", sum := "04c4b9d6de5e3ee602638f4bddbbce3a61796a4bb611180fd7a66253206b3312", func := "newel/newellaw02.ChainSkews", spec := "chainSkews", unfollowed := true, recurses := true, apart := false }
def ChainSkewsSaid : Prop := chainSkewsRow.holds Try.pinned (OpenSpec.ofChange chainSkewsSpec)

/-- ITS FALSE NEIGHBOUR: 'it returns false'. Refute it at one input. -/
def chainSkewsWrong : ChangeSpec := { name := "chainSkews", fn := fun _ => fun
  | [d1, d2, d3] => { results := [.lit (.bool false)], args := [d1, d2, d3] }
  | _ => none }
def ChainSkewsWrongFalsely : Prop := chainSkewsRow.holds Try.pinned (OpenSpec.ofChange chainSkewsWrong)

/-- 'newellaw02.ChainTilts': WHATEVER THE INPUT: true; the input reads as it did. -/
def chainTiltsSpec : ChangeSpec := { name := "chainTilts", fn := fun _ => fun
  | [d1, d2, d3] => { results := [.lit (.bool true)], args := [d1, d2, d3] }
  | _ => none }
def chainTiltsRow : OpenClaim := { program := "ytlejjfhgfajoiaa", sum := "04c4b9d6de5e3ee602638f4bddbbce3a61796a4bb611180fd7a66253206b3312", func := "newel/newellaw02.ChainTilts", spec := "chainTilts", unfollowed := true, recurses := true, apart := false }
def ChainTiltsSaid : Prop := chainTiltsRow.holds Try.pinned (OpenSpec.ofChange chainTiltsSpec)

/-- ITS FALSE NEIGHBOUR: 'it returns false'. Refute it at one input. -/
def chainTiltsWrong : ChangeSpec := { name := "chainTilts", fn := fun _ => fun
  | [d1, d2, d3] => { results := [.lit (.bool false)], args := [d1, d2, d3] }
  | _ => none }
def ChainTiltsWrongFalsely : Prop := chainTiltsRow.holds Try.pinned (OpenSpec.ofChange chainTiltsWrong)

/-- 'newellaw02.ChainTight': WHATEVER THE INPUT: true; the input reads as it did. -/
def chainTightSpec : ChangeSpec := { name := "chainTight", fn := fun _ => fun
  | [d1, d2, d3] => { results := [.lit (.bool true)], args := [d1, d2, d3] }
  | _ => none }
def chainTightRow : OpenClaim := { program := "ytlejjfhgfajoiaa", sum := "04c4b9d6de5e3ee602638f4bddbbce3a61796a4bb611180fd7a66253206b3312", func := "newel/newellaw02.ChainTight", spec := "chainTight", unfollowed := true, recurses := true, apart := false }
def ChainTightSaid : Prop := chainTightRow.holds Try.pinned (OpenSpec.ofChange chainTightSpec)

/-- ITS FALSE NEIGHBOUR: 'it returns false'. Refute it at one input. -/
def chainTightWrong : ChangeSpec := { name := "chainTight", fn := fun _ => fun
  | [d1, d2, d3] => { results := [.lit (.bool false)], args := [d1, d2, d3] }
  | _ => none }
def ChainTightWrongFalsely : Prop := chainTightRow.holds Try.pinned (OpenSpec.ofChange chainTightWrong)

/-- 'newellaw02.ChainWears': WHATEVER THE INPUT: true; the input reads as it did. -/
def chainWearsSpec : ChangeSpec := { name := "chainWears", fn := fun _ => fun
  | [d1, d2] => { results := [.lit (.bool true)], args := [d1, d2] }
  | _ => none }
def chainWearsRow : OpenClaim := { program := "ytlejjfhgfajoiaa", sum := "04c4b9d6de5e3ee602638f4bddbbce3a61796a4bb611180fd7a66253206b3312", func := "newel/newellaw02.ChainWears", spec := "chainWears", unfollowed := true, recurses := true, apart := false }
def ChainWearsSaid : Prop := chainWearsRow.holds Try.pinned (OpenSpec.ofChange chainWearsSpec)

/-- ITS FALSE NEIGHBOUR: 'it returns false'. Refute it at one input. -/
def chainWearsWrong : ChangeSpec := { name := "chainWears", fn := fun _ => fun
  | [d1, d2] => { results := [.lit (.bool false)], args := [d1, d2] }
  | _ => none }
def ChainWearsWrongFalsely : Prop := chainWearsRow.holds Try.pinned (OpenSpec.ofChange chainWearsWrong)

/-- 'newellaw02.ChainLives': WHATEVER THE INPUT: true; the input reads as it did. -/
def chainLivesSpec : ChangeSpec := { name := "chainLives", fn := fun _ => fun
  | [d1, d2, d3] => { results := [.lit (.bool true)], args := [d1, d2, d3] }
  | _ => none }
def chainLivesRow : OpenClaim := { program := "ytlejjfhgfajoiaa", sum := "04c4b9d6de5e3ee602638f4bddbbce3a61796a4bb611180fd7a66253206b3312", func := "newel/newellaw02.ChainLives", spec := "chainLives", unfollowed := true, recurses := true, apart := false }
def ChainLivesSaid : Prop := chainLivesRow.holds Try.pinned (OpenSpec.ofChange chainLivesSpec)

/-- ITS FALSE NEIGHBOUR: 'it returns false'. Refute it at one input. -/
def chainLivesWrong : ChangeSpec := { name := "chainLives", fn := fun _ => fun
  | [d1, d2, d3] => { results := [.lit (.bool false)], args := [d1, d2, d3] }
  | _ => none }
def ChainLivesWrongFalsely : Prop := chainLivesRow.holds Try.pinned (OpenSpec.ofChange chainLivesWrong)

/-- 'newellaw02.ChainWhy': WHATEVER THE INPUT: true; the input reads as it did. -/
def chainWhySpec : ChangeSpec := { name := "chainWhy", fn := fun _ => fun
  | [d1, d2, d3] => { results := [.lit (.bool true)], args := [d1, d2, d3] }
  | _ => none }
def chainWhyRow : OpenClaim := { program := "ytlejjfhgfajoiaa", sum := "04c4b9d6de5e3ee602638f4bddbbce3a61796a4bb611180fd7a66253206b3312", func := "newel/newellaw02.ChainWhy", spec := "chainWhy", unfollowed := true, recurses := true, apart := false }
def ChainWhySaid : Prop := chainWhyRow.holds Try.pinned (OpenSpec.ofChange chainWhySpec)

/-- ITS FALSE NEIGHBOUR: 'it returns false'. Refute it at one input. -/
def chainWhyWrong : ChangeSpec := { name := "chainWhy", fn := fun _ => fun
  | [d1, d2, d3] => { results := [.lit (.bool false)], args := [d1, d2, d3] }
  | _ => none }
def ChainWhyWrongFalsely : Prop := chainWhyRow.holds Try.pinned (OpenSpec.ofChange chainWhyWrong)

/-- 'newellaw02.ChainPlans': WHATEVER THE INPUT: true; the input reads as it did. -/
def chainPlansSpec : ChangeSpec := { name := "chainPlans", fn := fun _ => fun
  | [d1, d2, d3] => { results := [.lit (.bool true)], args := [d1, d2, d3] }
  | _ => none }
def chainPlansRow : OpenClaim := { program := "ytlejjfhgfajoiaa", sum := "04c4b9d6de5e3ee602638f4bddbbce3a61796a4bb611180fd7a66253206b3312", func := "newel/newellaw02.ChainPlans", spec := "chainPlans", unfollowed := true, recurses := true, apart := false }
def ChainPlansSaid : Prop := chainPlansRow.holds Try.pinned (OpenSpec.ofChange chainPlansSpec)

/-- ITS FALSE NEIGHBOUR: 'it returns false'. Refute it at one input. -/
def chainPlansWrong : ChangeSpec := { name := "chainPlans", fn := fun _ => fun
  | [d1, d2, d3] => { results := [.lit (.bool false)], args := [d1, d2, d3] }
  | _ => none }
def ChainPlansWrongFalsely : Prop := chainPlansRow.holds Try.pinned (OpenSpec.ofChange chainPlansWrong)

/-- 'newellaw02.ChainFuture': WHATEVER THE INPUT: true; the input reads as it did. -/
def chainFutureSpec : ChangeSpec := { name := "chainFuture", fn := fun _ => fun
  | [d1, d2, d3] => { results := [.lit (.bool true)], args := [d1, d2, d3] }
  | _ => none }
def chainFutureRow : OpenClaim := { program := "ytlejjfhgfajoiaa", sum := "04c4b9d6de5e3ee602638f4bddbbce3a61796a4bb611180fd7a66253206b3312", func := "newel/newellaw02.ChainFuture", spec := "chainFuture", unfollowed := true, recurses := true, apart := false }
def ChainFutureSaid : Prop := chainFutureRow.holds Try.pinned (OpenSpec.ofChange chainFutureSpec)

/-- ITS FALSE NEIGHBOUR: 'it returns false'. Refute it at one input. -/
def chainFutureWrong : ChangeSpec := { name := "chainFuture", fn := fun _ => fun
  | [d1, d2, d3] => { results := [.lit (.bool false)], args := [d1, d2, d3] }
  | _ => none }
def ChainFutureWrongFalsely : Prop := chainFutureRow.holds Try.pinned (OpenSpec.ofChange chainFutureWrong)

/-- 'newellaw02.ChainNeeds': WHATEVER THE INPUT: true; the input reads as it did. -/
def chainNeedsSpec : ChangeSpec := { name := "chainNeeds", fn := fun _ => fun
  | [d1, d2, d3] => { results := [.lit (.bool true)], args := [d1, d2, d3] }
  | _ => none }
def chainNeedsRow : OpenClaim := { program := "ytlejjfhgfajoiaa", sum := "04c4b9d6de5e3ee602638f4bddbbce3a61796a4bb611180fd7a66253206b3312", func := "newel/newellaw02.ChainNeeds", spec := "chainNeeds", unfollowed := true, recurses := true, apart := false }
def ChainNeedsSaid : Prop := chainNeedsRow.holds Try.pinned (OpenSpec.ofChange chainNeedsSpec)

/-- ITS FALSE NEIGHBOUR: 'it returns false'. Refute it at one input. -/
def chainNeedsWrong : ChangeSpec := { name := "chainNeeds", fn := fun _ => fun
  | [d1, d2, d3] => { results := [.lit (.bool false)], args := [d1, d2, d3] }
  | _ => none }
def ChainNeedsWrongFalsely : Prop := chainNeedsRow.holds Try.pinned (OpenSpec.ofChange chainNeedsWrong)

/- THE SECOND FORM. 'bulk': how many values and letters a reading holds, each counted each time it is reached (what is shared counts as often as it is met; a slice's spare places count too). A statement '..UptoSaid' is the law's where the arguments, and the package variables that the reading takes, are together of bulk at most 1048576: NARROWER than '..Said'. Prove '..Said' where nothing that the law and all that it calls make is longer than what came in: it says more and counts as full. Else prove '..UptoSaid'. A law counts once. -/
mutual
def uptoBulk {H : Type} : DataW H → Nat
  | .lit (.string bytes) => bytes.length + 1
  | .lit _ => 1
  | .nil => 1
  | .ptr d => uptoBulk d + 1
  | .slice elems spare => uptoBulkAll elems + uptoBulkAll spare + 1
  | .agg parts => uptoBulkAll parts + 1
  | .iface _ d => uptoBulk d + 1
  | .map entries => uptoBulkEntries entries + 1
  | .held _ => 1
def uptoBulkAll {H : Type} : List (DataW H) → Nat
  | [] => 0
  | d :: r => uptoBulk d + uptoBulkAll r
def uptoBulkEntries {H : Type} : List (Lit × DataW H) → Nat
  | [] => 0
  | x :: r => uptoBulkEntry x + uptoBulkEntries r
def uptoBulkEntry {H : Type} : Lit × DataW H → Nat
  | (.string bytes, d) => bytes.length + uptoBulk d + 1
  | (_, d) => uptoBulk d + 1
 end
def uptoSmall : (H : Type) → List (DataW H) → Bool := fun _ ds => decide (uptoBulkAll ds ≤ 1048576)
def OpenSpec.upto (s : _root_.Go.ChangeSpec) : _root_.Go.OpenSpec := { _root_.Go.OpenSpec.ofChange s with cond := some uptoSmall }

/-- 'newellaw02.ChainWitness', WHERE WHAT IT READS IS OF BULK AT MOST 1048576: true; the input reads as it did. -/
def chainWitnessUptoRow : OpenClaim := { program := "ytlejjfhgfajoiaa", sum := "04c4b9d6de5e3ee602638f4bddbbce3a61796a4bb611180fd7a66253206b3312", func := "newel/newellaw02.ChainWitness", spec := "chainWitness", unfollowed := true, recurses := true, apart := false, narrowed := true }
def ChainWitnessUptoSaid : Prop := chainWitnessUptoRow.holds Try.pinned (OpenSpec.upto chainWitnessSpec)

/-- 'newellaw02.ChainLinks', WHERE WHAT IT READS IS OF BULK AT MOST 1048576: true; the input reads as it did. -/
def chainLinksUptoRow : OpenClaim := { program := "ytlejjfhgfajoiaa", sum := "04c4b9d6de5e3ee602638f4bddbbce3a61796a4bb611180fd7a66253206b3312", func := "newel/newellaw02.ChainLinks", spec := "chainLinks", unfollowed := true, recurses := true, apart := false, narrowed := true }
def ChainLinksUptoSaid : Prop := chainLinksUptoRow.holds Try.pinned (OpenSpec.upto chainLinksSpec)

/-- 'newellaw02.ChainNarrows', WHERE WHAT IT READS IS OF BULK AT MOST 1048576: true; the input reads as it did. -/
def chainNarrowsUptoRow : OpenClaim := { program := "ytlejjfhgfajoiaa", sum := "04c4b9d6de5e3ee602638f4bddbbce3a61796a4bb611180fd7a66253206b3312", func := "newel/newellaw02.ChainNarrows", spec := "chainNarrows", unfollowed := true, recurses := true, apart := false, narrowed := true }
def ChainNarrowsUptoSaid : Prop := chainNarrowsUptoRow.holds Try.pinned (OpenSpec.upto chainNarrowsSpec)

/-- 'newellaw02.ChainLongest', WHERE WHAT IT READS IS OF BULK AT MOST 1048576: true; the input reads as it did. -/
def chainLongestUptoRow : OpenClaim := { program := "ytlejjfhgfajoiaa", sum := "04c4b9d6de5e3ee602638f4bddbbce3a61796a4bb611180fd7a66253206b3312", func := "newel/newellaw02.ChainLongest", spec := "chainLongest", unfollowed := true, recurses := true, apart := false, narrowed := true }
def ChainLongestUptoSaid : Prop := chainLongestUptoRow.holds Try.pinned (OpenSpec.upto chainLongestSpec)

/-- 'newellaw02.ChainEach', WHERE WHAT IT READS IS OF BULK AT MOST 1048576: true; the input reads as it did. -/
def chainEachUptoRow : OpenClaim := { program := "ytlejjfhgfajoiaa", sum := "04c4b9d6de5e3ee602638f4bddbbce3a61796a4bb611180fd7a66253206b3312", func := "newel/newellaw02.ChainEach", spec := "chainEach", unfollowed := true, recurses := true, apart := false, narrowed := true }
def ChainEachUptoSaid : Prop := chainEachUptoRow.holds Try.pinned (OpenSpec.upto chainEachSpec)

/-- 'newellaw02.ChainSkews', WHERE WHAT IT READS IS OF BULK AT MOST 1048576: true; the input reads as it did. -/
def chainSkewsUptoRow : OpenClaim := { program := "ytlejjfhgfajoiaa", sum := "04c4b9d6de5e3ee602638f4bddbbce3a61796a4bb611180fd7a66253206b3312", func := "newel/newellaw02.ChainSkews", spec := "chainSkews", unfollowed := true, recurses := true, apart := false, narrowed := true }
def ChainSkewsUptoSaid : Prop := chainSkewsUptoRow.holds Try.pinned (OpenSpec.upto chainSkewsSpec)

/-- 'newellaw02.ChainTilts', WHERE WHAT IT READS IS OF BULK AT MOST 1048576: true; the input reads as it did. -/
def chainTiltsUptoRow : OpenClaim := { program := "ytlejjfhgfajoiaa", sum := "04c4b9d6de5e3ee602638f4bddbbce3a61796a4bb611180fd7a66253206b3312", func := "newel/newellaw02.ChainTilts", spec := "chainTilts", unfollowed := true, recurses := true, apart := false, narrowed := true }
def ChainTiltsUptoSaid : Prop := chainTiltsUptoRow.holds Try.pinned (OpenSpec.upto chainTiltsSpec)

/-- 'newellaw02.ChainTight', WHERE WHAT IT READS IS OF BULK AT MOST 1048576: true; the input reads as it did. -/
def chainTightUptoRow : OpenClaim := { program := "ytlejjfhgfajoiaa", sum := "04c4b9d6de5e3ee602638f4bddbbce3a61796a4bb611180fd7a66253206b3312", func := "newel/newellaw02.ChainTight", spec := "chainTight", unfollowed := true, recurses := true, apart := false, narrowed := true }
def ChainTightUptoSaid : Prop := chainTightUptoRow.holds Try.pinned (OpenSpec.upto chainTightSpec)

/-- 'newellaw02.ChainWears', WHERE WHAT IT READS IS OF BULK AT MOST 1048576: true; the input reads as it did. -/
def chainWearsUptoRow : OpenClaim := { program := "ytlejjfhgfajoiaa", sum := "04c4b9d6de5e3ee602638f4bddbbce3a61796a4bb611180fd7a66253206b3312", func := "newel/newellaw02.ChainWears", spec := "chainWears", unfollowed := true, recurses := true, apart := false, narrowed := true }
def ChainWearsUptoSaid : Prop := chainWearsUptoRow.holds Try.pinned (OpenSpec.upto chainWearsSpec)

/-- 'newellaw02.ChainLives', WHERE WHAT IT READS IS OF BULK AT MOST 1048576: true; the input reads as it did. -/
def chainLivesUptoRow : OpenClaim := { program := "ytlejjfhgfajoiaa", sum := "04c4b9d6de5e3ee602638f4bddbbce3a61796a4bb611180fd7a66253206b3312", func := "newel/newellaw02.ChainLives", spec := "chainLives", unfollowed := true, recurses := true, apart := false, narrowed := true }
def ChainLivesUptoSaid : Prop := chainLivesUptoRow.holds Try.pinned (OpenSpec.upto chainLivesSpec)

/-- 'newellaw02.ChainWhy', WHERE WHAT IT READS IS OF BULK AT MOST 1048576: true; the input reads as it did. -/
def chainWhyUptoRow : OpenClaim := { program := "ytlejjfhgfajoiaa", sum := "04c4b9d6de5e3ee602638f4bddbbce3a61796a4bb611180fd7a66253206b3312", func := "newel/newellaw02.ChainWhy", spec := "chainWhy", unfollowed := true, recurses := true, apart := false, narrowed := true }
def ChainWhyUptoSaid : Prop := chainWhyUptoRow.holds Try.pinned (OpenSpec.upto chainWhySpec)

/-- 'newellaw02.ChainPlans', WHERE WHAT IT READS IS OF BULK AT MOST 1048576: true; the input reads as it did. -/
def chainPlansUptoRow : OpenClaim := { program := "ytlejjfhgfajoiaa", sum := "04c4b9d6de5e3ee602638f4bddbbce3a61796a4bb611180fd7a66253206b3312", func := "newel/newellaw02.ChainPlans", spec := "chainPlans", unfollowed := true, recurses := true, apart := false, narrowed := true }
def ChainPlansUptoSaid : Prop := chainPlansUptoRow.holds Try.pinned (OpenSpec.upto chainPlansSpec)

/-- 'newellaw02.ChainFuture', WHERE WHAT IT READS IS OF BULK AT MOST 1048576: true; the input reads as it did. -/
def chainFutureUptoRow : OpenClaim := { program := "ytlejjfhgfajoiaa", sum := "04c4b9d6de5e3ee602638f4bddbbce3a61796a4bb611180fd7a66253206b3312", func := "newel/newellaw02.ChainFuture", spec := "chainFuture", unfollowed := true, recurses := true, apart := false, narrowed := true }
def ChainFutureUptoSaid : Prop := chainFutureUptoRow.holds Try.pinned (OpenSpec.upto chainFutureSpec)

/-- 'newellaw02.ChainNeeds', WHERE WHAT IT READS IS OF BULK AT MOST 1048576: true; the input reads as it did. -/
def chainNeedsUptoRow : OpenClaim := { program := "ytlejjfhgfajoiaa", sum := "04c4b9d6de5e3ee602638f4bddbbce3a61796a4bb611180fd7a66253206b3312", func := "newel/newellaw02.ChainNeeds", spec := "chainNeeds", unfollowed := true, recurses := true, apart := false, narrowed := true }
def ChainNeedsUptoSaid : Prop := chainNeedsUptoRow.holds Try.pinned (OpenSpec.upto chainNeedsSpec)

end Rows
end Go.Proofs.Ytlejjfhgfajoiaa
