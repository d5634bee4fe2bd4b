/-
  No cell of these rows narrows 'for every input' (looked for: loops, veiled, ifaces, maps, wideKeys, modest, calm, conditions, laid).
  DERIVED. THE GIVEN ROWS OF THIS SEAT. 8 by the template 'for every input the law returns true; each argument reads behind the call as it read before'; 0 by the template 'total and deterministic' (their statements: YtcabpamfncjoeaaTotals.lean).
  GIVEN WITH THE SEED: the statements are not yours to turn. If you find one false, say at which input.
  Laid BY PROGRAM, IN A SANDBOX (cutbox-rows.mjs): the forced cells as the released guide's own fill.sh prints them over the translation cf1bfe761af1bbbb… (all of the seat's roots in one cut). By AI agents, Wed Nov 11 2026. No macro, syntax, notation, axiom, sorry.
-/
import Derived.Test.YtcabpamfncjoeaaChecked
import GoSem.Claim
import GoSem.ClaimJoined
import GoSem.ClaimMapViews
import Derived.JoinedTies
import Derived.KernelRfl
namespace Go.Proofs.Ytcabpamfncjoeaa
/- THE CELL 'sum', in the pinned program and in every row, IS THE sha256 OF THE DUMP (.gsa) THAT YtcabpamfncjoeaaProg.lean LOADS. Nothing in Lean hashes anything: it is a label: what it is worth is what the hold of that sum in a sandbox is worth. -/
noncomputable def Try.pinned : Pinned := { name := "ytcabpamfncjoeaa", sum := "cf1bfe761af1bbbb0259d0accf33bea2dfc25c26da45f86f83cd4b6d96501ad9", checked := Try.checked }
namespace Rows
def none {H : Type} : Left H := { results := [], args := [] }

/-- 'laws.FnExactPolyCount': WHATEVER THE INPUT: true; the input reads as it did. -/
def fnExactPolyCountSpec : ChangeSpec := { name := "fnExactPolyCount", fn := fun _ => fun
  | [d1, d2] => { results := [.lit (.bool true)], args := [d1, d2] }
  | _ => none }
def fnExactPolyCountRow : OpenClaim := { program := "ytcabpamfncjoeaa", sum := "cf1bfe761af1bbbb0259d0accf33bea2dfc25c26da45f86f83cd4b6d96501ad9", func := "loop.example/closingsticks/laws.FnExactPolyCount", spec := "fnExactPolyCount", unfollowed := true, recurses := true, apart := false }
def FnExactPolyCountSaid : Prop := fnExactPolyCountRow.holds Try.pinned (OpenSpec.ofChange fnExactPolyCountSpec)

/-- ITS FALSE NEIGHBOUR: 'it returns false'. Refute it at one input. -/
def fnExactPolyCountWrong : ChangeSpec := { name := "fnExactPolyCount", fn := fun _ => fun
  | [d1, d2] => { results := [.lit (.bool false)], args := [d1, d2] }
  | _ => none }
def FnExactPolyCountWrongFalsely : Prop := fnExactPolyCountRow.holds Try.pinned (OpenSpec.ofChange fnExactPolyCountWrong)

/-- 'laws.FnPolyRest': WHATEVER THE INPUT: true; the input reads as it did. -/
def fnPolyRestSpec : ChangeSpec := { name := "fnPolyRest", fn := fun _ => fun
  | [d] => { results := [.lit (.bool true)], args := [d] }
  | _ => none }
def fnPolyRestRow : OpenClaim := { program := "ytcabpamfncjoeaa", sum := "cf1bfe761af1bbbb0259d0accf33bea2dfc25c26da45f86f83cd4b6d96501ad9", func := "loop.example/closingsticks/laws.FnPolyRest", spec := "fnPolyRest", unfollowed := true, recurses := true, apart := false }
def FnPolyRestSaid : Prop := fnPolyRestRow.holds Try.pinned (OpenSpec.ofChange fnPolyRestSpec)

/-- ITS FALSE NEIGHBOUR: 'it returns false'. Refute it at one input. -/
def fnPolyRestWrong : ChangeSpec := { name := "fnPolyRest", fn := fun _ => fun
  | [d] => { results := [.lit (.bool false)], args := [d] }
  | _ => none }
def FnPolyRestWrongFalsely : Prop := fnPolyRestRow.holds Try.pinned (OpenSpec.ofChange fnPolyRestWrong)

/-- 'laws.FnExactPolyFirst': WHATEVER THE INPUT: true; the input reads as it did. -/
def fnExactPolyFirstSpec : ChangeSpec := { name := "fnExactPolyFirst", fn := fun _ => fun
  | [d1, d2] => { results := [.lit (.bool true)], args := [d1, d2] }
  | _ => none }
def fnExactPolyFirstRow : OpenClaim := { program := "ytcabpamfncjoeaa", sum := "cf1bfe761af1bbbb0259d0accf33bea2dfc25c26da45f86f83cd4b6d96501ad9", func := "loop.example/closingsticks/laws.FnExactPolyFirst", spec := "fnExactPolyFirst", unfollowed := true, recurses := true, apart := false }
def FnExactPolyFirstSaid : Prop := fnExactPolyFirstRow.holds Try.pinned (OpenSpec.ofChange fnExactPolyFirstSpec)

/-- ITS FALSE NEIGHBOUR: 'it returns false'. Refute it at one input. -/
def fnExactPolyFirstWrong : ChangeSpec := { name := "fnExactPolyFirst", fn := fun _ => fun
  | [d1, d2] => { results := [.lit (.bool false)], args := [d1, d2] }
  | _ => none }
def FnExactPolyFirstWrongFalsely : Prop := fnExactPolyFirstRow.holds Try.pinned (OpenSpec.ofChange fnExactPolyFirstWrong)

/-- 'laws.FnPolyCount': WHATEVER THE INPUT: true; the input reads as it did. -/
def fnPolyCountSpec : ChangeSpec := { name := "fnPolyCount", fn := fun _ => fun
  | [d] => { results := [.lit (.bool true)], args := [d] }
  | _ => none }
def fnPolyCountRow : OpenClaim := { program := "ytcabpamfncjoeaa", sum := "cf1bfe761af1bbbb0259d0accf33bea2dfc25c26da45f86f83cd4b6d96501ad9", func := "loop.example/closingsticks/laws.FnPolyCount", spec := "fnPolyCount", unfollowed := true, recurses := true, apart := false }
def FnPolyCountSaid : Prop := fnPolyCountRow.holds Try.pinned (OpenSpec.ofChange fnPolyCountSpec)

/-- ITS FALSE NEIGHBOUR: 'it returns false'. Refute it at one input. -/
def fnPolyCountWrong : ChangeSpec := { name := "fnPolyCount", fn := fun _ => fun
  | [d] => { results := [.lit (.bool false)], args := [d] }
  | _ => none }
def FnPolyCountWrongFalsely : Prop := fnPolyCountRow.holds Try.pinned (OpenSpec.ofChange fnPolyCountWrong)

/-- 'laws.FnPolyFirst': WHATEVER THE INPUT: true; the input reads as it did. -/
def fnPolyFirstSpec : ChangeSpec := { name := "fnPolyFirst", fn := fun _ => fun
  | [d] => { results := [.lit (.bool true)], args := [d] }
  | _ => none }
def fnPolyFirstRow : OpenClaim := { program := "ytcabpamfncjoeaa", sum := "cf1bfe761af1bbbb0259d0accf33bea2dfc25c26da45f86f83cd4b6d96501ad9", func := "loop.example/closingsticks/laws.FnPolyFirst", spec := "fnPolyFirst", unfollowed := true, recurses := true, apart := false }
def FnPolyFirstSaid : Prop := fnPolyFirstRow.holds Try.pinned (OpenSpec.ofChange fnPolyFirstSpec)

/-- ITS FALSE NEIGHBOUR: 'it returns false'. Refute it at one input. -/
def fnPolyFirstWrong : ChangeSpec := { name := "fnPolyFirst", fn := fun _ => fun
  | [d] => { results := [.lit (.bool false)], args := [d] }
  | _ => none }
def FnPolyFirstWrongFalsely : Prop := fnPolyFirstRow.holds Try.pinned (OpenSpec.ofChange fnPolyFirstWrong)

/-- 'laws.FnExactPolyParts': WHATEVER THE INPUT: true; the input reads as it did. -/
def fnExactPolyPartsSpec : ChangeSpec := { name := "fnExactPolyParts", fn := fun _ => fun
  | [d] => { results := [.lit (.bool true)], args := [d] }
  | _ => none }
def fnExactPolyPartsRow : OpenClaim := { program := "ytcabpamfncjoeaa", sum := "cf1bfe761af1bbbb0259d0accf33bea2dfc25c26da45f86f83cd4b6d96501ad9", func := "loop.example/closingsticks/laws.FnExactPolyParts", spec := "fnExactPolyParts", apart := false }
def FnExactPolyPartsSaid : Prop := fnExactPolyPartsRow.holds Try.pinned (OpenSpec.ofChange fnExactPolyPartsSpec)

/-- ITS FALSE NEIGHBOUR: 'it returns false'. Refute it at one input. -/
def fnExactPolyPartsWrong : ChangeSpec := { name := "fnExactPolyParts", fn := fun _ => fun
  | [d] => { results := [.lit (.bool false)], args := [d] }
  | _ => none }
def FnExactPolyPartsWrongFalsely : Prop := fnExactPolyPartsRow.holds Try.pinned (OpenSpec.ofChange fnExactPolyPartsWrong)

/-- 'laws.FnPolyParts': WHATEVER THE INPUT: true; the input reads as it did. -/
def fnPolyPartsSpec : ChangeSpec := { name := "fnPolyParts", fn := fun _ => fun
  | [d] => { results := [.lit (.bool true)], args := [d] }
  | _ => none }
def fnPolyPartsRow : OpenClaim := { program := "ytcabpamfncjoeaa", sum := "cf1bfe761af1bbbb0259d0accf33bea2dfc25c26da45f86f83cd4b6d96501ad9", func := "loop.example/closingsticks/laws.FnPolyParts", spec := "fnPolyParts", apart := false }
def FnPolyPartsSaid : Prop := fnPolyPartsRow.holds Try.pinned (OpenSpec.ofChange fnPolyPartsSpec)

/-- ITS FALSE NEIGHBOUR: 'it returns false'. Refute it at one input. -/
def fnPolyPartsWrong : ChangeSpec := { name := "fnPolyParts", fn := fun _ => fun
  | [d] => { results := [.lit (.bool false)], args := [d] }
  | _ => none }
def FnPolyPartsWrongFalsely : Prop := fnPolyPartsRow.holds Try.pinned (OpenSpec.ofChange fnPolyPartsWrong)

/-- 'laws.FnPolyMost': WHATEVER THE INPUT: true; the input reads as it did. -/
def fnPolyMostSpec : ChangeSpec := { name := "fnPolyMost", fn := fun _ => fun
  | [d] => { results := [.lit (.bool true)], args := [d] }
  | _ => none }
def fnPolyMostRow : OpenClaim := { program := "ytcabpamfncjoeaa", sum := "cf1bfe761af1bbbb0259d0accf33bea2dfc25c26da45f86f83cd4b6d96501ad9", func := "loop.example/closingsticks/laws.FnPolyMost", spec := "fnPolyMost", unfollowed := true, recurses := true, apart := false }
def FnPolyMostSaid : Prop := fnPolyMostRow.holds Try.pinned (OpenSpec.ofChange fnPolyMostSpec)

/-- ITS FALSE NEIGHBOUR: 'it returns false'. Refute it at one input. -/
def fnPolyMostWrong : ChangeSpec := { name := "fnPolyMost", fn := fun _ => fun
  | [d] => { results := [.lit (.bool false)], args := [d] }
  | _ => none }
def FnPolyMostWrongFalsely : Prop := fnPolyMostRow.holds Try.pinned (OpenSpec.ofChange fnPolyMostWrong)

/- THE SECOND FORM. 'bulk': how many values and letters a reading holds, each counted each time it is reached (what is shared counts as often as it is met; a slice's spare places count too). A statement '..UptoSaid' is the law's where the arguments, and the package variables that the reading takes, are together of bulk at most 1048576: NARROWER than '..Said'. Prove '..Said' where nothing that the law and all that it calls make is longer than what came in: it says more and counts as full. Else prove '..UptoSaid'. A law counts once. -/
mutual
def uptoBulk {H : Type} : DataW H → Nat
  | .lit (.string bytes) => bytes.length + 1
  | .lit _ => 1
  | .nil => 1
  | .ptr d => uptoBulk d + 1
  | .slice elems spare => uptoBulkAll elems + uptoBulkAll spare + 1
  | .agg parts => uptoBulkAll parts + 1
  | .iface _ d => uptoBulk d + 1
  | .map entries => uptoBulkEntries entries + 1
  | .held _ => 1
def uptoBulkAll {H : Type} : List (DataW H) → Nat
  | [] => 0
  | d :: r => uptoBulk d + uptoBulkAll r
def uptoBulkEntries {H : Type} : List (Lit × DataW H) → Nat
  | [] => 0
  | x :: r => uptoBulkEntry x + uptoBulkEntries r
def uptoBulkEntry {H : Type} : Lit × DataW H → Nat
  | (.string bytes, d) => bytes.length + uptoBulk d + 1
  | (_, d) => uptoBulk d + 1
 end
def uptoSmall : (H : Type) → List (DataW H) → Bool := fun _ ds => decide (uptoBulkAll ds ≤ 1048576)
def OpenSpec.upto (s : _root_.Go.ChangeSpec) : _root_.Go.OpenSpec := { _root_.Go.OpenSpec.ofChange s with cond := some uptoSmall }

/-- 'laws.FnExactPolyCount', WHERE WHAT IT READS IS OF BULK AT MOST 1048576: true; the input reads as it did. -/
def fnExactPolyCountUptoRow : OpenClaim := { program := "ytcabpamfncjoeaa", sum := "cf1bfe761af1bbbb0259d0accf33bea2dfc25c26da45f86f83cd4b6d96501ad9", func := "loop.example/closingsticks/laws.FnExactPolyCount", spec := "fnExactPolyCount", unfollowed := true, recurses := true, apart := false, narrowed := true }
def FnExactPolyCountUptoSaid : Prop := fnExactPolyCountUptoRow.holds Try.pinned (OpenSpec.upto fnExactPolyCountSpec)

/-- 'laws.FnPolyRest', WHERE WHAT IT READS IS OF BULK AT MOST 1048576: true; the input reads as it did. -/
def fnPolyRestUptoRow : OpenClaim := { program := "ytcabpamfncjoeaa", sum := "cf1bfe761af1bbbb0259d0accf33bea2dfc25c26da45f86f83cd4b6d96501ad9", func := "loop.example/closingsticks/laws.FnPolyRest", spec := "fnPolyRest", unfollowed := true, recurses := true, apart := false, narrowed := true }
def FnPolyRestUptoSaid : Prop := fnPolyRestUptoRow.holds Try.pinned (OpenSpec.upto fnPolyRestSpec)

/-- 'laws.FnExactPolyFirst', WHERE WHAT IT READS IS OF BULK AT MOST 1048576: true; the input reads as it did. -/
def fnExactPolyFirstUptoRow : OpenClaim := { program := "ytcabpamfncjoeaa", sum := "cf1bfe761af1bbbb0259d0accf33bea2dfc25c26da45f86f83cd4b6d96501ad9", func := "loop.example/closingsticks/laws.FnExactPolyFirst", spec := "fnExactPolyFirst", unfollowed := true, recurses := true, apart := false, narrowed := true }
def FnExactPolyFirstUptoSaid : Prop := fnExactPolyFirstUptoRow.holds Try.pinned (OpenSpec.upto fnExactPolyFirstSpec)

/-- 'laws.FnPolyCount', WHERE WHAT IT READS IS OF BULK AT MOST 1048576: true; the input reads as it did. -/
def fnPolyCountUptoRow : OpenClaim := { program := "ytcabpamfncjoeaa", sum := "cf1bfe761af1bbbb0259d0accf33bea2dfc25c26da45f86f83cd4b6d96501ad9", func := "loop.example/closingsticks/laws.FnPolyCount", spec := "fnPolyCount", unfollowed := true, recurses := true, apart := false, narrowed := true }
def FnPolyCountUptoSaid : Prop := fnPolyCountUptoRow.holds Try.pinned (OpenSpec.upto fnPolyCountSpec)

/-- 'laws.FnPolyFirst', WHERE WHAT IT READS IS OF BULK AT MOST 1048576: true; the input reads as it did. -/
def fnPolyFirstUptoRow : OpenClaim := { program := "ytcabpamfncjoeaa", sum := "cf1bfe761af1bbbb0259d0accf33bea2dfc25c26da45f86f83cd4b6d96501ad9", func := "loop.example/closingsticks/laws.FnPolyFirst", spec := "fnPolyFirst", unfollowed := true, recurses := true, apart := false, narrowed := true }
def FnPolyFirstUptoSaid : Prop := fnPolyFirstUptoRow.holds Try.pinned (OpenSpec.upto fnPolyFirstSpec)

/-- 'laws.FnExactPolyParts', WHERE WHAT IT READS IS OF BULK AT MOST 1048576: true; the input reads as it did. -/
def fnExactPolyPartsUptoRow : OpenClaim := { program := "ytcabpamfncjoeaa", sum := "cf1bfe761af1bbbb0259d0accf33bea2dfc25c26da45f86f83cd4b6d96501ad9", func := "loop.example/closingsticks/laws.FnExactPolyParts", spec := "fnExactPolyParts", apart := false, narrowed := true }
def FnExactPolyPartsUptoSaid : Prop := fnExactPolyPartsUptoRow.holds Try.pinned (OpenSpec.upto fnExactPolyPartsSpec)

/-- 'laws.FnPolyParts', WHERE WHAT IT READS IS OF BULK AT MOST 1048576: true; the input reads as it did. -/
def fnPolyPartsUptoRow : OpenClaim := { program := "ytcabpamfncjoeaa", sum := "cf1bfe761af1bbbb0259d0accf33bea2dfc25c26da45f86f83cd4b6d96501ad9", func := "loop.example/closingsticks/laws.FnPolyParts", spec := "fnPolyParts", apart := false, narrowed := true }
def FnPolyPartsUptoSaid : Prop := fnPolyPartsUptoRow.holds Try.pinned (OpenSpec.upto fnPolyPartsSpec)

/-- 'laws.FnPolyMost', WHERE WHAT IT READS IS OF BULK AT MOST 1048576: true; the input reads as it did. -/
def fnPolyMostUptoRow : OpenClaim := { program := "ytcabpamfncjoeaa", sum := "cf1bfe761af1bbbb0259d0accf33bea2dfc25c26da45f86f83cd4b6d96501ad9", func := "loop.example/closingsticks/laws.FnPolyMost", spec := "fnPolyMost", unfollowed := true, recurses := true, apart := false, narrowed := true }
def FnPolyMostUptoSaid : Prop := fnPolyMostUptoRow.holds Try.pinned (OpenSpec.upto fnPolyMostSpec)

end Rows
end Go.Proofs.Ytcabpamfncjoeaa
