/-
  No cell of these rows narrows 'for every input' (looked for: loops, veiled, ifaces, maps, wideKeys, modest, calm, conditions, laid).
  DERIVED. THE GIVEN ROWS OF THIS SEAT. 9 by the template 'for every input the law returns true; each argument reads behind the call as it read before'; 0 by the template 'total and deterministic' (their statements: YtfihnemjaademaaTotals.lean).
  GIVEN WITH THE SEED: the statements are not yours to turn. If you find one false, say at which input.
  Laid BY PROGRAM, IN A SANDBOX (cutbox-rows.mjs): the forced cells as the released guide's own fill.sh prints them over the translation fa9c0c4cbf53f31e… (all of the seat's roots in one cut). By AI agents, Wed Nov 11 2026. No macro, syntax, notation, axiom, sorry.
-/
import Derived.Test.YtfihnemjaademaaChecked
import GoSem.Claim
import GoSem.ClaimJoined
import GoSem.ClaimMapViews
import Derived.JoinedTies
import Derived.KernelRfl
namespace Go.Proofs.Ytfihnemjaademaa
/- THE CELL 'sum', in the pinned program and in every row, IS THE sha256 OF THE DUMP (.gsa) THAT YtfihnemjaademaaProg.lean LOADS. Nothing in Lean hashes anything: it is a label: what it is worth is what the hold of that sum in a sandbox is worth. -/
noncomputable def Try.pinned : Pinned := { name := "ytfihnemjaademaa", sum := "fa9c0c4cbf53f31e7adaa97bd0b90c97f3bbc3425407395e895f9c52c753275e", checked := Try.checked }
namespace Rows
def none {H : Type} : Left H := { results := [], args := [] }

/-- 'laws.FnCloses': WHATEVER THE INPUT: true; the input reads as it did. -/
def fnClosesSpec : ChangeSpec := { name := "fnCloses", fn := fun _ => fun
  | [d] => { results := [.lit (.bool true)], args := [d] }
  | _ => none }
def fnClosesRow : OpenClaim := { program := "ytfihnemjaademaa", sum := "fa9c0c4cbf53f31e7adaa97bd0b90c97f3bbc3425407395e895f9c52c753275e", func := "loop.example/closingsticks/laws.FnCloses", spec := "fnCloses", recurses := true, apart := false }
def FnClosesSaid : Prop := fnClosesRow.holds Try.pinned (OpenSpec.ofChange fnClosesSpec)

/-- ITS FALSE NEIGHBOUR: 'it returns false'. Refute it at one input. -/
def fnClosesWrong : ChangeSpec := { name := "fnCloses", fn := fun _ => fun
  | [d] => { results := [.lit (.bool false)], args := [d] }
  | _ => none }
def FnClosesWrongFalsely : Prop := fnClosesRow.holds Try.pinned (OpenSpec.ofChange fnClosesWrong)

/-- 'laws.FnPolyFix': WHATEVER THE INPUT: true; the input reads as it did. -/
def fnPolyFixSpec : ChangeSpec := { name := "fnPolyFix", fn := fun _ => fun
  | [d] => { results := [.lit (.bool true)], args := [d] }
  | _ => none }
def fnPolyFixRow : OpenClaim := { program := "ytfihnemjaademaa", sum := "fa9c0c4cbf53f31e7adaa97bd0b90c97f3bbc3425407395e895f9c52c753275e", func := "loop.example/closingsticks/laws.FnPolyFix", spec := "fnPolyFix", recurses := true, apart := false }
def FnPolyFixSaid : Prop := fnPolyFixRow.holds Try.pinned (OpenSpec.ofChange fnPolyFixSpec)

/-- ITS FALSE NEIGHBOUR: 'it returns false'. Refute it at one input. -/
def fnPolyFixWrong : ChangeSpec := { name := "fnPolyFix", fn := fun _ => fun
  | [d] => { results := [.lit (.bool false)], args := [d] }
  | _ => none }
def FnPolyFixWrongFalsely : Prop := fnPolyFixRow.holds Try.pinned (OpenSpec.ofChange fnPolyFixWrong)

/-- 'laws.FnTo': WHATEVER THE INPUT: true; the input reads as it did. -/
def fnToSpec : ChangeSpec := { name := "fnTo", fn := fun _ => fun
  | [d] => { results := [.lit (.bool true)], args := [d] }
  | _ => none }
def fnToRow : OpenClaim := { program := "ytfihnemjaademaa", sum := "fa9c0c4cbf53f31e7adaa97bd0b90c97f3bbc3425407395e895f9c52c753275e", func := "loop.example/closingsticks/laws.FnTo", spec := "fnTo", recurses := true, apart := false }
def FnToSaid : Prop := fnToRow.holds Try.pinned (OpenSpec.ofChange fnToSpec)

/-- ITS FALSE NEIGHBOUR: 'it returns false'. Refute it at one input. -/
def fnToWrong : ChangeSpec := { name := "fnTo", fn := fun _ => fun
  | [d] => { results := [.lit (.bool false)], args := [d] }
  | _ => none }
def FnToWrongFalsely : Prop := fnToRow.holds Try.pinned (OpenSpec.ofChange fnToWrong)

/-- 'laws.FnHold': WHATEVER THE INPUT: true; the input reads as it did. -/
def fnHoldSpec : ChangeSpec := { name := "fnHold", fn := fun _ => fun
  | [d] => { results := [.lit (.bool true)], args := [d] }
  | _ => none }
def fnHoldRow : OpenClaim := { program := "ytfihnemjaademaa", sum := "fa9c0c4cbf53f31e7adaa97bd0b90c97f3bbc3425407395e895f9c52c753275e", func := "loop.example/closingsticks/laws.FnHold", spec := "fnHold", recurses := true, apart := false }
def FnHoldSaid : Prop := fnHoldRow.holds Try.pinned (OpenSpec.ofChange fnHoldSpec)

/-- ITS FALSE NEIGHBOUR: 'it returns false'. Refute it at one input. -/
def fnHoldWrong : ChangeSpec := { name := "fnHold", fn := fun _ => fun
  | [d] => { results := [.lit (.bool false)], args := [d] }
  | _ => none }
def FnHoldWrongFalsely : Prop := fnHoldRow.holds Try.pinned (OpenSpec.ofChange fnHoldWrong)

/-- 'laws.FnFoldBack': WHATEVER THE INPUT: true; the input reads as it did. -/
def fnFoldBackSpec : ChangeSpec := { name := "fnFoldBack", fn := fun _ => fun
  | [d] => { results := [.lit (.bool true)], args := [d] }
  | _ => none }
def fnFoldBackRow : OpenClaim := { program := "ytfihnemjaademaa", sum := "fa9c0c4cbf53f31e7adaa97bd0b90c97f3bbc3425407395e895f9c52c753275e", func := "loop.example/closingsticks/laws.FnFoldBack", spec := "fnFoldBack", unfollowed := true, recurses := true, apart := false }
def FnFoldBackSaid : Prop := fnFoldBackRow.holds Try.pinned (OpenSpec.ofChange fnFoldBackSpec)

/-- ITS FALSE NEIGHBOUR: 'it returns false'. Refute it at one input. -/
def fnFoldBackWrong : ChangeSpec := { name := "fnFoldBack", fn := fun _ => fun
  | [d] => { results := [.lit (.bool false)], args := [d] }
  | _ => none }
def FnFoldBackWrongFalsely : Prop := fnFoldBackRow.holds Try.pinned (OpenSpec.ofChange fnFoldBackWrong)

/-- 'laws.FnNear': WHATEVER THE INPUT: true; the input reads as it did. -/
def fnNearSpec : ChangeSpec := { name := "fnNear", fn := fun _ => fun
  | [d] => { results := [.lit (.bool true)], args := [d] }
  | _ => none }
def fnNearRow : OpenClaim := { program := "ytfihnemjaademaa", sum := "fa9c0c4cbf53f31e7adaa97bd0b90c97f3bbc3425407395e895f9c52c753275e", func := "loop.example/closingsticks/laws.FnNear", spec := "fnNear", unfollowed := true, recurses := true, apart := false }
def FnNearSaid : Prop := fnNearRow.holds Try.pinned (OpenSpec.ofChange fnNearSpec)

/-- ITS FALSE NEIGHBOUR: 'it returns false'. Refute it at one input. -/
def fnNearWrong : ChangeSpec := { name := "fnNear", fn := fun _ => fun
  | [d] => { results := [.lit (.bool false)], args := [d] }
  | _ => none }
def FnNearWrongFalsely : Prop := fnNearRow.holds Try.pinned (OpenSpec.ofChange fnNearWrong)

/-- 'laws.FnEnds': WHATEVER THE INPUT: true; the input reads as it did. -/
def fnEndsSpec : ChangeSpec := { name := "fnEnds", fn := fun _ => fun
  | [d] => { results := [.lit (.bool true)], args := [d] }
  | _ => none }
def fnEndsRow : OpenClaim := { program := "ytfihnemjaademaa", sum := "fa9c0c4cbf53f31e7adaa97bd0b90c97f3bbc3425407395e895f9c52c753275e", func := "loop.example/closingsticks/laws.FnEnds", spec := "fnEnds", unfollowed := true, recurses := true, apart := false }
def FnEndsSaid : Prop := fnEndsRow.holds Try.pinned (OpenSpec.ofChange fnEndsSpec)

/-- ITS FALSE NEIGHBOUR: 'it returns false'. Refute it at one input. -/
def fnEndsWrong : ChangeSpec := { name := "fnEnds", fn := fun _ => fun
  | [d] => { results := [.lit (.bool false)], args := [d] }
  | _ => none }
def FnEndsWrongFalsely : Prop := fnEndsRow.holds Try.pinned (OpenSpec.ofChange fnEndsWrong)

/-- 'laws.FnExactFoldNear': WHATEVER THE INPUT: true; the input reads as it did. -/
def fnExactFoldNearSpec : ChangeSpec := { name := "fnExactFoldNear", fn := fun _ => fun
  | [d] => { results := [.lit (.bool true)], args := [d] }
  | _ => none }
def fnExactFoldNearRow : OpenClaim := { program := "ytfihnemjaademaa", sum := "fa9c0c4cbf53f31e7adaa97bd0b90c97f3bbc3425407395e895f9c52c753275e", func := "loop.example/closingsticks/laws.FnExactFoldNear", spec := "fnExactFoldNear", unfollowed := true, recurses := true, apart := false }
def FnExactFoldNearSaid : Prop := fnExactFoldNearRow.holds Try.pinned (OpenSpec.ofChange fnExactFoldNearSpec)

/-- ITS FALSE NEIGHBOUR: 'it returns false'. Refute it at one input. -/
def fnExactFoldNearWrong : ChangeSpec := { name := "fnExactFoldNear", fn := fun _ => fun
  | [d] => { results := [.lit (.bool false)], args := [d] }
  | _ => none }
def FnExactFoldNearWrongFalsely : Prop := fnExactFoldNearRow.holds Try.pinned (OpenSpec.ofChange fnExactFoldNearWrong)

/-- 'laws.FnExactFoldEnds': WHATEVER THE INPUT: true; the input reads as it did. -/
def fnExactFoldEndsSpec : ChangeSpec := { name := "fnExactFoldEnds", fn := fun _ => fun
  | [d] => { results := [.lit (.bool true)], args := [d] }
  | _ => none }
def fnExactFoldEndsRow : OpenClaim := { program := "ytfihnemjaademaa", sum := "fa9c0c4cbf53f31e7adaa97bd0b90c97f3bbc3425407395e895f9c52c753275e", func := "loop.example/closingsticks/laws.FnExactFoldEnds", spec := "fnExactFoldEnds", unfollowed := true, recurses := true, apart := false }
def FnExactFoldEndsSaid : Prop := fnExactFoldEndsRow.holds Try.pinned (OpenSpec.ofChange fnExactFoldEndsSpec)

/-- ITS FALSE NEIGHBOUR: 'it returns false'. Refute it at one input. -/
def fnExactFoldEndsWrong : ChangeSpec := { name := "fnExactFoldEnds", fn := fun _ => fun
  | [d] => { results := [.lit (.bool false)], args := [d] }
  | _ => none }
def FnExactFoldEndsWrongFalsely : Prop := fnExactFoldEndsRow.holds Try.pinned (OpenSpec.ofChange fnExactFoldEndsWrong)

/- THE SECOND FORM. 'bulk': how many values and letters a reading holds, each counted each time it is reached (what is shared counts as often as it is met; a slice's spare places count too). A statement '..UptoSaid' is the law's where the arguments, and the package variables that the reading takes, are together of bulk at most 1048576: NARROWER than '..Said'. Prove '..Said' where nothing that the law and all that it calls make is longer than what came in: it says more and counts as full. Else prove '..UptoSaid'. A law counts once. -/
mutual
def uptoBulk {H : Type} : DataW H → Nat
  | .lit (.string bytes) => bytes.length + 1
  | .lit _ => 1
  | .nil => 1
  | .ptr d => uptoBulk d + 1
  | .slice elems spare => uptoBulkAll elems + uptoBulkAll spare + 1
  | .agg parts => uptoBulkAll parts + 1
  | .iface _ d => uptoBulk d + 1
  | .map entries => uptoBulkEntries entries + 1
  | .held _ => 1
def uptoBulkAll {H : Type} : List (DataW H) → Nat
  | [] => 0
  | d :: r => uptoBulk d + uptoBulkAll r
def uptoBulkEntries {H : Type} : List (Lit × DataW H) → Nat
  | [] => 0
  | x :: r => uptoBulkEntry x + uptoBulkEntries r
def uptoBulkEntry {H : Type} : Lit × DataW H → Nat
  | (.string bytes, d) => bytes.length + uptoBulk d + 1
  | (_, d) => uptoBulk d + 1
 end
def uptoSmall : (H : Type) → List (DataW H) → Bool := fun _ ds => decide (uptoBulkAll ds ≤ 1048576)
def OpenSpec.upto (s : _root_.Go.ChangeSpec) : _root_.Go.OpenSpec := { _root_.Go.OpenSpec.ofChange s with cond := some uptoSmall }

/-- 'laws.FnCloses', WHERE WHAT IT READS IS OF BULK AT MOST 1048576: true; the input reads as it did. -/
def fnClosesUptoRow : OpenClaim := { program := "ytfihnemjaademaa", sum := "fa9c0c4cbf53f31e7adaa97bd0b90c97f3bbc3425407395e895f9c52c753275e", func := "loop.example/closingsticks/laws.FnCloses", spec := "fnCloses", recurses := true, apart := false, narrowed := true }
def FnClosesUptoSaid : Prop := fnClosesUptoRow.holds Try.pinned (OpenSpec.upto fnClosesSpec)

/-- 'laws.FnPolyFix', WHERE WHAT IT READS IS OF BULK AT MOST 1048576: true; the input reads as it did. -/
def fnPolyFixUptoRow : OpenClaim := { program := "ytfihnemjaademaa", sum := "fa9c0c4cbf53f31e7adaa97bd0b90c97f3bbc3425407395e895f9c52c753275e", func := "loop.example/closingsticks/laws.FnPolyFix", spec := "fnPolyFix", recurses := true, apart := false, narrowed := true }
def FnPolyFixUptoSaid : Prop := fnPolyFixUptoRow.holds Try.pinned (OpenSpec.upto fnPolyFixSpec)

/-- 'laws.FnTo', WHERE WHAT IT READS IS OF BULK AT MOST 1048576: true; the input reads as it did. -/
def fnToUptoRow : OpenClaim := { program := "ytfihnemjaademaa", sum := "fa9c0c4cbf53f31e7adaa97bd0b90c97f3bbc3425407395e895f9c52c753275e", func := "loop.example/closingsticks/laws.FnTo", spec := "fnTo", recurses := true, apart := false, narrowed := true }
def FnToUptoSaid : Prop := fnToUptoRow.holds Try.pinned (OpenSpec.upto fnToSpec)

/-- 'laws.FnHold', WHERE WHAT IT READS IS OF BULK AT MOST 1048576: true; the input reads as it did. -/
def fnHoldUptoRow : OpenClaim := { program := "ytfihnemjaademaa", sum := "fa9c0c4cbf53f31e7adaa97bd0b90c97f3bbc3425407395e895f9c52c753275e", func := "loop.example/closingsticks/laws.FnHold", spec := "fnHold", recurses := true, apart := false, narrowed := true }
def FnHoldUptoSaid : Prop := fnHoldUptoRow.holds Try.pinned (OpenSpec.upto fnHoldSpec)

/-- 'laws.FnFoldBack', WHERE WHAT IT READS IS OF BULK AT MOST 1048576: true; the input reads as it did. -/
def fnFoldBackUptoRow : OpenClaim := { program := "ytfihnemjaademaa", sum := "fa9c0c4cbf53f31e7adaa97bd0b90c97f3bbc3425407395e895f9c52c753275e", func := "loop.example/closingsticks/laws.FnFoldBack", spec := "fnFoldBack", unfollowed := true, recurses := true, apart := false, narrowed := true }
def FnFoldBackUptoSaid : Prop := fnFoldBackUptoRow.holds Try.pinned (OpenSpec.upto fnFoldBackSpec)

/-- 'laws.FnNear', WHERE WHAT IT READS IS OF BULK AT MOST 1048576: true; the input reads as it did. -/
def fnNearUptoRow : OpenClaim := { program := "ytfihnemjaademaa", sum := "fa9c0c4cbf53f31e7adaa97bd0b90c97f3bbc3425407395e895f9c52c753275e", func := "loop.example/closingsticks/laws.FnNear", spec := "fnNear", unfollowed := true, recurses := true, apart := false, narrowed := true }
def FnNearUptoSaid : Prop := fnNearUptoRow.holds Try.pinned (OpenSpec.upto fnNearSpec)

/-- 'laws.FnEnds', WHERE WHAT IT READS IS OF BULK AT MOST 1048576: true; the input reads as it did. -/
def fnEndsUptoRow : OpenClaim := { program := "ytfihnemjaademaa", sum := "fa9c0c4cbf53f31e7adaa97bd0b90c97f3bbc3425407395e895f9c52c753275e", func := "loop.example/closingsticks/laws.FnEnds", spec := "fnEnds", unfollowed := true, recurses := true, apart := false, narrowed := true }
def FnEndsUptoSaid : Prop := fnEndsUptoRow.holds Try.pinned (OpenSpec.upto fnEndsSpec)

/-- 'laws.FnExactFoldNear', WHERE WHAT IT READS IS OF BULK AT MOST 1048576: true; the input reads as it did. -/
def fnExactFoldNearUptoRow : OpenClaim := { program := "ytfihnemjaademaa", sum := "fa9c0c4cbf53f31e7adaa97bd0b90c97f3bbc3425407395e895f9c52c753275e", func := "loop.example/closingsticks/laws.FnExactFoldNear", spec := "fnExactFoldNear", unfollowed := true, recurses := true, apart := false, narrowed := true }
def FnExactFoldNearUptoSaid : Prop := fnExactFoldNearUptoRow.holds Try.pinned (OpenSpec.upto fnExactFoldNearSpec)

/-- 'laws.FnExactFoldEnds', WHERE WHAT IT READS IS OF BULK AT MOST 1048576: true; the input reads as it did. -/
def fnExactFoldEndsUptoRow : OpenClaim := { program := "ytfihnemjaademaa", sum := "fa9c0c4cbf53f31e7adaa97bd0b90c97f3bbc3425407395e895f9c52c753275e", func := "loop.example/closingsticks/laws.FnExactFoldEnds", spec := "fnExactFoldEnds", unfollowed := true, recurses := true, apart := false, narrowed := true }
def FnExactFoldEndsUptoSaid : Prop := fnExactFoldEndsUptoRow.holds Try.pinned (OpenSpec.upto fnExactFoldEndsSpec)

end Rows
end Go.Proofs.Ytfihnemjaademaa
