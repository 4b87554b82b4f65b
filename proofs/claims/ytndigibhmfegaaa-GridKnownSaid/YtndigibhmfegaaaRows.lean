/-
  No cell of these rows narrows 'for every input' (looked for: loops, veiled, ifaces, maps, wideKeys, modest, calm, conditions, laid).
  DERIVED. THE GIVEN ROWS OF THIS SEAT. 7 by the template 'for every input the law returns true; each argument reads behind the call as it read before'; 0 by the template 'total and deterministic' (their statements: YtndigibhmfegaaaTotals.lean).
  GIVEN WITH THE SEED: the statements are not yours to turn. If you find one false, say at which input.
  Laid BY PROGRAM, IN A SANDBOX (cutbox-rows.mjs): the forced cells as the released guide's own fill.sh prints them over the translation 034f7c3abe948cfc… (all of the seat's roots in one cut). By AI agents, Wed Nov 11 2026. No macro, syntax, notation, axiom, sorry.
-/
import Derived.Test.YtndigibhmfegaaaChecked
import GoSem.Claim
import GoSem.ClaimJoined
import GoSem.ClaimMapViews
import Derived.JoinedTies
import Derived.KernelRfl
namespace Go.Proofs.Ytndigibhmfegaaa
/- THE CELL 'sum', in the pinned program and in every row, IS THE sha256 OF THE DUMP (.gsa) THAT YtndigibhmfegaaaProg.lean LOADS. Nothing in Lean hashes anything: it is a label: what it is worth is what the hold of that sum in a sandbox is worth. -/
noncomputable def Try.pinned : Pinned := { name := "ytndigibhmfegaaa", sum := "034f7c3abe948cfca358f0b38a6734cd11a9565607a922d4a5df4f298c624896", checked := Try.checked }
namespace Rows
def none {H : Type} : Left H := { results := [], args := [] }

/-- 'verdigrislaw10.GridPlaces': WHATEVER THE INPUT: true; the input reads as it did. -/
def gridPlacesSpec : ChangeSpec := { name := "gridPlaces", fn := fun _ => fun
  | [d1, d2, d3, d4, d5] => { results := [.lit (.bool true)], args := [d1, d2, d3, d4, d5] }
  | _ => none }
def gridPlacesRow : OpenClaim := { program := "ytndigibhmfegaaa", sum := "034f7c3abe948cfca358f0b38a6734cd11a9565607a922d4a5df4f298c624896", func := "verdigris/verdigrislaw10.GridPlaces", spec := "gridPlaces", unfollowed := true, recurses := true, apart := false }
def GridPlacesSaid : Prop := gridPlacesRow.holds Try.pinned (OpenSpec.ofChange gridPlacesSpec)

/-- ITS FALSE NEIGHBOUR: 'it returns false'. Refute it at one input. -/
def gridPlacesWrong : ChangeSpec := { name := "gridPlaces", fn := fun _ => fun
  | [d1, d2, d3, d4, d5] => { results := [.lit (.bool false)], args := [d1, d2, d3, d4, d5] }
  | _ => none }
def GridPlacesWrongFalsely : Prop := gridPlacesRow.holds Try.pinned (OpenSpec.ofChange gridPlacesWrong)

/-- 'verdigrislaw10.GridTurns': WHATEVER THE INPUT: true; the input reads as it did. -/
def gridTurnsSpec : ChangeSpec := { name := "gridTurns", fn := fun _ => fun
  | [d1, d2, d3, d4, d5, d6] => { results := [.lit (.bool true)], args := [d1, d2, d3, d4, d5, d6] }
  | _ => none }
def gridTurnsRow : OpenClaim := { program := "ytndigibhmfegaaa", sum := "034f7c3abe948cfca358f0b38a6734cd11a9565607a922d4a5df4f298c624896", func := "verdigris/verdigrislaw10.GridTurns", spec := "gridTurns", unfollowed := true, recurses := true, apart := false }
def GridTurnsSaid : Prop := gridTurnsRow.holds Try.pinned (OpenSpec.ofChange gridTurnsSpec)

/-- ITS FALSE NEIGHBOUR: 'it returns false'. Refute it at one input. -/
def gridTurnsWrong : ChangeSpec := { name := "gridTurns", fn := fun _ => fun
  | [d1, d2, d3, d4, d5, d6] => { results := [.lit (.bool false)], args := [d1, d2, d3, d4, d5, d6] }
  | _ => none }
def GridTurnsWrongFalsely : Prop := gridTurnsRow.holds Try.pinned (OpenSpec.ofChange gridTurnsWrong)

/-- 'verdigrislaw10.GridOrder': WHATEVER THE INPUT: true; the input reads as it did. -/
def gridOrderSpec : ChangeSpec := { name := "gridOrder", fn := fun _ => fun
  | [d] => { results := [.lit (.bool true)], args := [d] }
  | _ => none }
def gridOrderRow : OpenClaim := { program := "ytndigibhmfegaaa", sum := "034f7c3abe948cfca358f0b38a6734cd11a9565607a922d4a5df4f298c624896", func := "verdigris/verdigrislaw10.GridOrder", spec := "gridOrder", unfollowed := true, recurses := true, apart := false }
def GridOrderSaid : Prop := gridOrderRow.holds Try.pinned (OpenSpec.ofChange gridOrderSpec)

/-- ITS FALSE NEIGHBOUR: 'it returns false'. Refute it at one input. -/
def gridOrderWrong : ChangeSpec := { name := "gridOrder", fn := fun _ => fun
  | [d] => { results := [.lit (.bool false)], args := [d] }
  | _ => none }
def GridOrderWrongFalsely : Prop := gridOrderRow.holds Try.pinned (OpenSpec.ofChange gridOrderWrong)

/-- 'verdigrislaw10.GridKnown': WHATEVER THE INPUT: true; the input reads as it did. -/
def gridKnownSpec : ChangeSpec := { name := "gridKnown", fn := fun _ => fun
  | [] => { results := [.lit (.bool true)], args := [] }
  | _ => none }
def gridKnownRow : OpenClaim := { program := "ytndigibhmfegaaa", sum := "034f7c3abe948cfca358f0b38a6734cd11a9565607a922d4a5df4f298c624896", func := "verdigris/verdigrislaw10.GridKnown", spec := "gridKnown", unfollowed := true, recurses := true, apart := false }
def GridKnownSaid : Prop := gridKnownRow.holds Try.pinned (OpenSpec.ofChange gridKnownSpec)

/-- ITS FALSE NEIGHBOUR: 'it returns false'. Refute it at one input. -/
def gridKnownWrong : ChangeSpec := { name := "gridKnown", fn := fun _ => fun
  | [] => { results := [.lit (.bool false)], args := [] }
  | _ => none }
def GridKnownWrongFalsely : Prop := gridKnownRow.holds Try.pinned (OpenSpec.ofChange gridKnownWrong)

/-- 'verdigrislaw10.GridChecks': WHATEVER THE INPUT: true; the input reads as it did. -/
def gridChecksSpec : ChangeSpec := { name := "gridChecks", fn := fun _ => fun
  | [d1, d2, d3] => { results := [.lit (.bool true)], args := [d1, d2, d3] }
  | _ => none }
def gridChecksRow : OpenClaim := { program := "ytndigibhmfegaaa", sum := "034f7c3abe948cfca358f0b38a6734cd11a9565607a922d4a5df4f298c624896", func := "verdigris/verdigrislaw10.GridChecks", spec := "gridChecks", unfollowed := true, recurses := true, apart := false }
def GridChecksSaid : Prop := gridChecksRow.holds Try.pinned (OpenSpec.ofChange gridChecksSpec)

/-- ITS FALSE NEIGHBOUR: 'it returns false'. Refute it at one input. -/
def gridChecksWrong : ChangeSpec := { name := "gridChecks", fn := fun _ => fun
  | [d1, d2, d3] => { results := [.lit (.bool false)], args := [d1, d2, d3] }
  | _ => none }
def GridChecksWrongFalsely : Prop := gridChecksRow.holds Try.pinned (OpenSpec.ofChange gridChecksWrong)

/-- 'verdigrislaw10.GridSwaps': WHATEVER THE INPUT: true; the input reads as it did. -/
def gridSwapsSpec : ChangeSpec := { name := "gridSwaps", fn := fun _ => fun
  | [d1, d2, d3, d4] => { results := [.lit (.bool true)], args := [d1, d2, d3, d4] }
  | _ => none }
def gridSwapsRow : OpenClaim := { program := "ytndigibhmfegaaa", sum := "034f7c3abe948cfca358f0b38a6734cd11a9565607a922d4a5df4f298c624896", func := "verdigris/verdigrislaw10.GridSwaps", spec := "gridSwaps", unfollowed := true, recurses := true, apart := false }
def GridSwapsSaid : Prop := gridSwapsRow.holds Try.pinned (OpenSpec.ofChange gridSwapsSpec)

/-- ITS FALSE NEIGHBOUR: 'it returns false'. Refute it at one input. -/
def gridSwapsWrong : ChangeSpec := { name := "gridSwaps", fn := fun _ => fun
  | [d1, d2, d3, d4] => { results := [.lit (.bool false)], args := [d1, d2, d3, d4] }
  | _ => none }
def GridSwapsWrongFalsely : Prop := gridSwapsRow.holds Try.pinned (OpenSpec.ofChange gridSwapsWrong)

/-- 'verdigrislaw10.GridPicks': WHATEVER THE INPUT: true; the input reads as it did. -/
def gridPicksSpec : ChangeSpec := { name := "gridPicks", fn := fun _ => fun
  | [d1, d2, d3, d4] => { results := [.lit (.bool true)], args := [d1, d2, d3, d4] }
  | _ => none }
def gridPicksRow : OpenClaim := { program := "ytndigibhmfegaaa", sum := "034f7c3abe948cfca358f0b38a6734cd11a9565607a922d4a5df4f298c624896", func := "verdigris/verdigrislaw10.GridPicks", spec := "gridPicks", unfollowed := true, recurses := true, apart := false }
def GridPicksSaid : Prop := gridPicksRow.holds Try.pinned (OpenSpec.ofChange gridPicksSpec)

/-- ITS FALSE NEIGHBOUR: 'it returns false'. Refute it at one input. -/
def gridPicksWrong : ChangeSpec := { name := "gridPicks", fn := fun _ => fun
  | [d1, d2, d3, d4] => { results := [.lit (.bool false)], args := [d1, d2, d3, d4] }
  | _ => none }
def GridPicksWrongFalsely : Prop := gridPicksRow.holds Try.pinned (OpenSpec.ofChange gridPicksWrong)

/- THE SECOND FORM. 'bulk': how many values and letters a reading holds, each counted each time it is reached (what is shared counts as often as it is met; a slice's spare places count too). A statement '..UptoSaid' is the law's where the arguments, and the package variables that the reading takes, are together of bulk at most 1048576: NARROWER than '..Said'. Prove '..Said' where nothing that the law and all that it calls make is longer than what came in: it says more and counts as full. Else prove '..UptoSaid'. A law counts once. -/
mutual
def uptoBulk {H : Type} : DataW H → Nat
  | .lit (.string bytes) => bytes.length + 1
  | .lit _ => 1
  | .nil => 1
  | .ptr d => uptoBulk d + 1
  | .slice elems spare => uptoBulkAll elems + uptoBulkAll spare + 1
  | .agg parts => uptoBulkAll parts + 1
  | .iface _ d => uptoBulk d + 1
  | .map entries => uptoBulkEntries entries + 1
  | .held _ => 1
def uptoBulkAll {H : Type} : List (DataW H) → Nat
  | [] => 0
  | d :: r => uptoBulk d + uptoBulkAll r
def uptoBulkEntries {H : Type} : List (Lit × DataW H) → Nat
  | [] => 0
  | x :: r => uptoBulkEntry x + uptoBulkEntries r
def uptoBulkEntry {H : Type} : Lit × DataW H → Nat
  | (.string bytes, d) => bytes.length + uptoBulk d + 1
  | (_, d) => uptoBulk d + 1
 end
def uptoSmall : (H : Type) → List (DataW H) → Bool := fun _ ds => decide (uptoBulkAll ds ≤ 1048576)
def OpenSpec.upto (s : _root_.Go.ChangeSpec) : _root_.Go.OpenSpec := { _root_.Go.OpenSpec.ofChange s with cond := some uptoSmall }

/-- 'verdigrislaw10.GridPlaces', WHERE WHAT IT READS IS OF BULK AT MOST 1048576: true; the input reads as it did. -/
def gridPlacesUptoRow : OpenClaim := { program := "ytndigibhmfegaaa", sum := "034f7c3abe948cfca358f0b38a6734cd11a9565607a922d4a5df4f298c624896", func := "verdigris/verdigrislaw10.GridPlaces", spec := "gridPlaces", unfollowed := true, recurses := true, apart := false, narrowed := true }
def GridPlacesUptoSaid : Prop := gridPlacesUptoRow.holds Try.pinned (OpenSpec.upto gridPlacesSpec)

/-- 'verdigrislaw10.GridTurns', WHERE WHAT IT READS IS OF BULK AT MOST 1048576: true; the input reads as it did. -/
def gridTurnsUptoRow : OpenClaim := { program := "ytndigibhmfegaaa", sum := "034f7c3abe948cfca358f0b38a6734cd11a9565607a922d4a5df4f298c624896", func := "verdigris/verdigrislaw10.GridTurns", spec := "gridTurns", unfollowed := true, recurses := true, apart := false, narrowed := true }
def GridTurnsUptoSaid : Prop := gridTurnsUptoRow.holds Try.pinned (OpenSpec.upto gridTurnsSpec)

/-- 'verdigrislaw10.GridOrder', WHERE WHAT IT READS IS OF BULK AT MOST 1048576: true; the input reads as it did. -/
def gridOrderUptoRow : OpenClaim := { program := "ytndigibhmfegaaa", sum := "034f7c3abe948cfca358f0b38a6734cd11a9565607a922d4a5df4f298c624896", func := "verdigris/verdigrislaw10.GridOrder", spec := "gridOrder", unfollowed := true, recurses := true, apart := false, narrowed := true }
def GridOrderUptoSaid : Prop := gridOrderUptoRow.holds Try.pinned (OpenSpec.upto gridOrderSpec)

/-- 'verdigrislaw10.GridKnown', WHERE WHAT IT READS IS OF BULK AT MOST 1048576: true; the input reads as it did. -/
def gridKnownUptoRow : OpenClaim := { program := "ytndigibhmfegaaa", sum := "034f7c3abe948cfca358f0b38a6734cd11a9565607a922d4a5df4f298c624896", func := "verdigris/verdigrislaw10.GridKnown", spec := "gridKnown", unfollowed := true, recurses := true, apart := false, narrowed := true }
def GridKnownUptoSaid : Prop := gridKnownUptoRow.holds Try.pinned (OpenSpec.upto gridKnownSpec)

/-- 'verdigrislaw10.GridChecks', WHERE WHAT IT READS IS OF BULK AT MOST 1048576: true; the input reads as it did. -/
def gridChecksUptoRow : OpenClaim := { program := "ytndigibhmfegaaa", sum := "034f7c3abe948cfca358f0b38a6734cd11a9565607a922d4a5df4f298c624896", func := "verdigris/verdigrislaw10.GridChecks", spec := "gridChecks", unfollowed := true, recurses := true, apart := false, narrowed := true }
def GridChecksUptoSaid : Prop := gridChecksUptoRow.holds Try.pinned (OpenSpec.upto gridChecksSpec)

/-- 'verdigrislaw10.GridSwaps', WHERE WHAT IT READS IS OF BULK AT MOST 1048576: true; the input reads as it did. -/
def gridSwapsUptoRow : OpenClaim := { program := "ytndigibhmfegaaa", sum := "034f7c3abe948cfca358f0b38a6734cd11a9565607a922d4a5df4f298c624896", func := "verdigris/verdigrislaw10.GridSwaps", spec := "gridSwaps", unfollowed := true, recurses := true, apart := false, narrowed := true }
def GridSwapsUptoSaid : Prop := gridSwapsUptoRow.holds Try.pinned (OpenSpec.upto gridSwapsSpec)

/-- 'verdigrislaw10.GridPicks', WHERE WHAT IT READS IS OF BULK AT MOST 1048576: true; the input reads as it did. -/
def gridPicksUptoRow : OpenClaim := { program := "ytndigibhmfegaaa", sum := "034f7c3abe948cfca358f0b38a6734cd11a9565607a922d4a5df4f298c624896", func := "verdigris/verdigrislaw10.GridPicks", spec := "gridPicks", unfollowed := true, recurses := true, apart := false, narrowed := true }
def GridPicksUptoSaid : Prop := gridPicksUptoRow.holds Try.pinned (OpenSpec.upto gridPicksSpec)

end Rows
end Go.Proofs.Ytndigibhmfegaaa
