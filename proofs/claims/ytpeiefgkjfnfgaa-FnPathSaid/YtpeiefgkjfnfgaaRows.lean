/-
  No cell of these rows narrows 'for every input' (looked for: loops, veiled, ifaces, maps, wideKeys, modest, calm, conditions, laid).
  DERIVED. THE GIVEN ROWS OF THIS SEAT. 10 by the template 'for every input the law returns true; each argument reads behind the call as it read before'; 0 by the template 'total and deterministic' (their statements: YtpeiefgkjfnfgaaTotals.lean).
  GIVEN WITH THE SEED: the statements are not yours to turn. If you find one false, say at which input.
  Laid BY PROGRAM, IN A SANDBOX (cutbox-rows.mjs): the forced cells as the released guide's own fill.sh prints them over the translation d7434748797c3f51… (all of the seat's roots in one cut). By AI agents, Wed Nov 11 2026. No macro, syntax, notation, axiom, sorry.
-/
import Derived.Test.YtpeiefgkjfnfgaaChecked
import GoSem.Claim
import GoSem.ClaimJoined
import GoSem.ClaimMapViews
import Derived.JoinedTies
import Derived.KernelRfl
namespace Go.Proofs.Ytpeiefgkjfnfgaa
/- THE CELL 'sum', in the pinned program and in every row, IS THE sha256 OF THE DUMP (.gsa) THAT YtpeiefgkjfnfgaaProg.lean LOADS. Nothing in Lean hashes anything: it is a label: what it is worth is what the hold of that sum in a sandbox is worth. -/
noncomputable def Try.pinned : Pinned := { name := "ytpeiefgkjfnfgaa", sum := "d7434748797c3f51a9227e4ae81e9cbc777c238be6f21a22464f6eaec2192ce7", checked := Try.checked }
namespace Rows
def none {H : Type} : Left H := { results := [], args := [] }

/-- 'laws.FnExactPathIn': WHATEVER THE INPUT: true; the input reads as it did. -/
def fnExactPathInSpec : ChangeSpec := { name := "fnExactPathIn", fn := fun _ => fun
  | [d] => { results := [.lit (.bool true)], args := [d] }
  | _ => none }
def fnExactPathInRow : OpenClaim := { program := "ytpeiefgkjfnfgaa", sum := "d7434748797c3f51a9227e4ae81e9cbc777c238be6f21a22464f6eaec2192ce7", func := "loop.example/closingsticks/laws.FnExactPathIn", spec := "fnExactPathIn", apart := false }
def FnExactPathInSaid : Prop := fnExactPathInRow.holds Try.pinned (OpenSpec.ofChange fnExactPathInSpec)

/-- ITS FALSE NEIGHBOUR: 'it returns false'. Refute it at one input. -/
def fnExactPathInWrong : ChangeSpec := { name := "fnExactPathIn", fn := fun _ => fun
  | [d] => { results := [.lit (.bool false)], args := [d] }
  | _ => none }
def FnExactPathInWrongFalsely : Prop := fnExactPathInRow.holds Try.pinned (OpenSpec.ofChange fnExactPathInWrong)

/-- 'laws.FnExactPathRim': WHATEVER THE INPUT: true; the input reads as it did. -/
def fnExactPathRimSpec : ChangeSpec := { name := "fnExactPathRim", fn := fun _ => fun
  | [d] => { results := [.lit (.bool true)], args := [d] }
  | _ => none }
def fnExactPathRimRow : OpenClaim := { program := "ytpeiefgkjfnfgaa", sum := "d7434748797c3f51a9227e4ae81e9cbc777c238be6f21a22464f6eaec2192ce7", func := "loop.example/closingsticks/laws.FnExactPathRim", spec := "fnExactPathRim", apart := false }
def FnExactPathRimSaid : Prop := fnExactPathRimRow.holds Try.pinned (OpenSpec.ofChange fnExactPathRimSpec)

/-- ITS FALSE NEIGHBOUR: 'it returns false'. Refute it at one input. -/
def fnExactPathRimWrong : ChangeSpec := { name := "fnExactPathRim", fn := fun _ => fun
  | [d] => { results := [.lit (.bool false)], args := [d] }
  | _ => none }
def FnExactPathRimWrongFalsely : Prop := fnExactPathRimRow.holds Try.pinned (OpenSpec.ofChange fnExactPathRimWrong)

/-- 'laws.FnExactPathArea': WHATEVER THE INPUT: true; the input reads as it did. -/
def fnExactPathAreaSpec : ChangeSpec := { name := "fnExactPathArea", fn := fun _ => fun
  | [d] => { results := [.lit (.bool true)], args := [d] }
  | _ => none }
def fnExactPathAreaRow : OpenClaim := { program := "ytpeiefgkjfnfgaa", sum := "d7434748797c3f51a9227e4ae81e9cbc777c238be6f21a22464f6eaec2192ce7", func := "loop.example/closingsticks/laws.FnExactPathArea", spec := "fnExactPathArea", apart := false }
def FnExactPathAreaSaid : Prop := fnExactPathAreaRow.holds Try.pinned (OpenSpec.ofChange fnExactPathAreaSpec)

/-- ITS FALSE NEIGHBOUR: 'it returns false'. Refute it at one input. -/
def fnExactPathAreaWrong : ChangeSpec := { name := "fnExactPathArea", fn := fun _ => fun
  | [d] => { results := [.lit (.bool false)], args := [d] }
  | _ => none }
def FnExactPathAreaWrongFalsely : Prop := fnExactPathAreaRow.holds Try.pinned (OpenSpec.ofChange fnExactPathAreaWrong)

/-- 'laws.FnExactPathBox': WHATEVER THE INPUT: true; the input reads as it did. -/
def fnExactPathBoxSpec : ChangeSpec := { name := "fnExactPathBox", fn := fun _ => fun
  | [d] => { results := [.lit (.bool true)], args := [d] }
  | _ => none }
def fnExactPathBoxRow : OpenClaim := { program := "ytpeiefgkjfnfgaa", sum := "d7434748797c3f51a9227e4ae81e9cbc777c238be6f21a22464f6eaec2192ce7", func := "loop.example/closingsticks/laws.FnExactPathBox", spec := "fnExactPathBox", apart := false }
def FnExactPathBoxSaid : Prop := fnExactPathBoxRow.holds Try.pinned (OpenSpec.ofChange fnExactPathBoxSpec)

/-- ITS FALSE NEIGHBOUR: 'it returns false'. Refute it at one input. -/
def fnExactPathBoxWrong : ChangeSpec := { name := "fnExactPathBox", fn := fun _ => fun
  | [d] => { results := [.lit (.bool false)], args := [d] }
  | _ => none }
def FnExactPathBoxWrongFalsely : Prop := fnExactPathBoxRow.holds Try.pinned (OpenSpec.ofChange fnExactPathBoxWrong)

/-- 'laws.FnExactPathBack': WHATEVER THE INPUT: true; the input reads as it did. -/
def fnExactPathBackSpec : ChangeSpec := { name := "fnExactPathBack", fn := fun _ => fun
  | [d] => { results := [.lit (.bool true)], args := [d] }
  | _ => none }
def fnExactPathBackRow : OpenClaim := { program := "ytpeiefgkjfnfgaa", sum := "d7434748797c3f51a9227e4ae81e9cbc777c238be6f21a22464f6eaec2192ce7", func := "loop.example/closingsticks/laws.FnExactPathBack", spec := "fnExactPathBack", apart := false }
def FnExactPathBackSaid : Prop := fnExactPathBackRow.holds Try.pinned (OpenSpec.ofChange fnExactPathBackSpec)

/-- ITS FALSE NEIGHBOUR: 'it returns false'. Refute it at one input. -/
def fnExactPathBackWrong : ChangeSpec := { name := "fnExactPathBack", fn := fun _ => fun
  | [d] => { results := [.lit (.bool false)], args := [d] }
  | _ => none }
def FnExactPathBackWrongFalsely : Prop := fnExactPathBackRow.holds Try.pinned (OpenSpec.ofChange fnExactPathBackWrong)

/-- 'laws.FnExactPathTurn': WHATEVER THE INPUT: true; the input reads as it did. -/
def fnExactPathTurnSpec : ChangeSpec := { name := "fnExactPathTurn", fn := fun _ => fun
  | [d] => { results := [.lit (.bool true)], args := [d] }
  | _ => none }
def fnExactPathTurnRow : OpenClaim := { program := "ytpeiefgkjfnfgaa", sum := "d7434748797c3f51a9227e4ae81e9cbc777c238be6f21a22464f6eaec2192ce7", func := "loop.example/closingsticks/laws.FnExactPathTurn", spec := "fnExactPathTurn", apart := false }
def FnExactPathTurnSaid : Prop := fnExactPathTurnRow.holds Try.pinned (OpenSpec.ofChange fnExactPathTurnSpec)

/-- ITS FALSE NEIGHBOUR: 'it returns false'. Refute it at one input. -/
def fnExactPathTurnWrong : ChangeSpec := { name := "fnExactPathTurn", fn := fun _ => fun
  | [d] => { results := [.lit (.bool false)], args := [d] }
  | _ => none }
def FnExactPathTurnWrongFalsely : Prop := fnExactPathTurnRow.holds Try.pinned (OpenSpec.ofChange fnExactPathTurnWrong)

/-- 'laws.FnExactPathCorners': WHATEVER THE INPUT: true; the input reads as it did. -/
def fnExactPathCornersSpec : ChangeSpec := { name := "fnExactPathCorners", fn := fun _ => fun
  | [d] => { results := [.lit (.bool true)], args := [d] }
  | _ => none }
def fnExactPathCornersRow : OpenClaim := { program := "ytpeiefgkjfnfgaa", sum := "d7434748797c3f51a9227e4ae81e9cbc777c238be6f21a22464f6eaec2192ce7", func := "loop.example/closingsticks/laws.FnExactPathCorners", spec := "fnExactPathCorners", apart := false }
def FnExactPathCornersSaid : Prop := fnExactPathCornersRow.holds Try.pinned (OpenSpec.ofChange fnExactPathCornersSpec)

/-- ITS FALSE NEIGHBOUR: 'it returns false'. Refute it at one input. -/
def fnExactPathCornersWrong : ChangeSpec := { name := "fnExactPathCorners", fn := fun _ => fun
  | [d] => { results := [.lit (.bool false)], args := [d] }
  | _ => none }
def FnExactPathCornersWrongFalsely : Prop := fnExactPathCornersRow.holds Try.pinned (OpenSpec.ofChange fnExactPathCornersWrong)

/-- 'laws.FnPath': WHATEVER THE INPUT: true; the input reads as it did. -/
def fnPathSpec : ChangeSpec := { name := "fnPath", fn := fun _ => fun
  | [d] => { results := [.lit (.bool true)], args := [d] }
  | _ => none }
def fnPathRow : OpenClaim := { program := "ytpeiefgkjfnfgaa", sum := "d7434748797c3f51a9227e4ae81e9cbc777c238be6f21a22464f6eaec2192ce7", func := "loop.example/closingsticks/laws.FnPath", spec := "fnPath", apart := false }
def FnPathSaid : Prop := fnPathRow.holds Try.pinned (OpenSpec.ofChange fnPathSpec)

/-- ITS FALSE NEIGHBOUR: 'it returns false'. Refute it at one input. -/
def fnPathWrong : ChangeSpec := { name := "fnPath", fn := fun _ => fun
  | [d] => { results := [.lit (.bool false)], args := [d] }
  | _ => none }
def FnPathWrongFalsely : Prop := fnPathRow.holds Try.pinned (OpenSpec.ofChange fnPathWrong)

/-- 'laws.FnExactPathBegin': WHATEVER THE INPUT: true; the input reads as it did. -/
def fnExactPathBeginSpec : ChangeSpec := { name := "fnExactPathBegin", fn := fun _ => fun
  | [d1, d2] => { results := [.lit (.bool true)], args := [d1, d2] }
  | _ => none }
def fnExactPathBeginRow : OpenClaim := { program := "ytpeiefgkjfnfgaa", sum := "d7434748797c3f51a9227e4ae81e9cbc777c238be6f21a22464f6eaec2192ce7", func := "loop.example/closingsticks/laws.FnExactPathBegin", spec := "fnExactPathBegin", apart := false }
def FnExactPathBeginSaid : Prop := fnExactPathBeginRow.holds Try.pinned (OpenSpec.ofChange fnExactPathBeginSpec)

/-- ITS FALSE NEIGHBOUR: 'it returns false'. Refute it at one input. -/
def fnExactPathBeginWrong : ChangeSpec := { name := "fnExactPathBegin", fn := fun _ => fun
  | [d1, d2] => { results := [.lit (.bool false)], args := [d1, d2] }
  | _ => none }
def FnExactPathBeginWrongFalsely : Prop := fnExactPathBeginRow.holds Try.pinned (OpenSpec.ofChange fnExactPathBeginWrong)

/-- 'laws.FnExactPathConvex': WHATEVER THE INPUT: true; the input reads as it did. -/
def fnExactPathConvexSpec : ChangeSpec := { name := "fnExactPathConvex", fn := fun _ => fun
  | [d] => { results := [.lit (.bool true)], args := [d] }
  | _ => none }
def fnExactPathConvexRow : OpenClaim := { program := "ytpeiefgkjfnfgaa", sum := "d7434748797c3f51a9227e4ae81e9cbc777c238be6f21a22464f6eaec2192ce7", func := "loop.example/closingsticks/laws.FnExactPathConvex", spec := "fnExactPathConvex", apart := false }
def FnExactPathConvexSaid : Prop := fnExactPathConvexRow.holds Try.pinned (OpenSpec.ofChange fnExactPathConvexSpec)

/-- ITS FALSE NEIGHBOUR: 'it returns false'. Refute it at one input. -/
def fnExactPathConvexWrong : ChangeSpec := { name := "fnExactPathConvex", fn := fun _ => fun
  | [d] => { results := [.lit (.bool false)], args := [d] }
  | _ => none }
def FnExactPathConvexWrongFalsely : Prop := fnExactPathConvexRow.holds Try.pinned (OpenSpec.ofChange fnExactPathConvexWrong)

/- THE SECOND FORM. 'bulk': how many values and letters a reading holds, each counted each time it is reached (what is shared counts as often as it is met; a slice's spare places count too). A statement '..UptoSaid' is the law's where the arguments, and the package variables that the reading takes, are together of bulk at most 1048576: NARROWER than '..Said'. Prove '..Said' where nothing that the law and all that it calls make is longer than what came in: it says more and counts as full. Else prove '..UptoSaid'. A law counts once. -/
mutual
def uptoBulk {H : Type} : DataW H → Nat
  | .lit (.string bytes) => bytes.length + 1
  | .lit _ => 1
  | .nil => 1
  | .ptr d => uptoBulk d + 1
  | .slice elems spare => uptoBulkAll elems + uptoBulkAll spare + 1
  | .agg parts => uptoBulkAll parts + 1
  | .iface _ d => uptoBulk d + 1
  | .map entries => uptoBulkEntries entries + 1
  | .held _ => 1
def uptoBulkAll {H : Type} : List (DataW H) → Nat
  | [] => 0
  | d :: r => uptoBulk d + uptoBulkAll r
def uptoBulkEntries {H : Type} : List (Lit × DataW H) → Nat
  | [] => 0
  | x :: r => uptoBulkEntry x + uptoBulkEntries r
def uptoBulkEntry {H : Type} : Lit × DataW H → Nat
  | (.string bytes, d) => bytes.length + uptoBulk d + 1
  | (_, d) => uptoBulk d + 1
 end
def uptoSmall : (H : Type) → List (DataW H) → Bool := fun _ ds => decide (uptoBulkAll ds ≤ 1048576)
def OpenSpec.upto (s : _root_.Go.ChangeSpec) : _root_.Go.OpenSpec := { _root_.Go.OpenSpec.ofChange s with cond := some uptoSmall }

/-- 'laws.FnExactPathIn', WHERE WHAT IT READS IS OF BULK AT MOST 1048576: true; the input reads as it did. -/
def fnExactPathInUptoRow : OpenClaim := { program := "ytpeiefgkjfnfgaa", sum := "d7434748797c3f51a9227e4ae81e9cbc777c238be6f21a22464f6eaec2192ce7", func := "loop.example/closingsticks/laws.FnExactPathIn", spec := "fnExactPathIn", apart := false, narrowed := true }
def FnExactPathInUptoSaid : Prop := fnExactPathInUptoRow.holds Try.pinned (OpenSpec.upto fnExactPathInSpec)

/-- 'laws.FnExactPathRim', WHERE WHAT IT READS IS OF BULK AT MOST 1048576: true; the input reads as it did. -/
def fnExactPathRimUptoRow : OpenClaim := { program := "ytpeiefgkjfnfgaa", sum := "d7434748797c3f51a9227e4ae81e9cbc777c238be6f21a22464f6eaec2192ce7", func := "loop.example/closingsticks/laws.FnExactPathRim", spec := "fnExactPathRim", apart := false, narrowed := true }
def FnExactPathRimUptoSaid : Prop := fnExactPathRimUptoRow.holds Try.pinned (OpenSpec.upto fnExactPathRimSpec)

/-- 'laws.FnExactPathArea', WHERE WHAT IT READS IS OF BULK AT MOST 1048576: true; the input reads as it did. -/
def fnExactPathAreaUptoRow : OpenClaim := { program := "ytpeiefgkjfnfgaa", sum := "d7434748797c3f51a9227e4ae81e9cbc777c238be6f21a22464f6eaec2192ce7", func := "loop.example/closingsticks/laws.FnExactPathArea", spec := "fnExactPathArea", apart := false, narrowed := true }
def FnExactPathAreaUptoSaid : Prop := fnExactPathAreaUptoRow.holds Try.pinned (OpenSpec.upto fnExactPathAreaSpec)

/-- 'laws.FnExactPathBox', WHERE WHAT IT READS IS OF BULK AT MOST 1048576: true; the input reads as it did. -/
def fnExactPathBoxUptoRow : OpenClaim := { program := "ytpeiefgkjfnfgaa", sum := "d7434748797c3f51a9227e4ae81e9cbc777c238be6f21a22464f6eaec2192ce7", func := "loop.example/closingsticks/laws.FnExactPathBox", spec := "fnExactPathBox", apart := false, narrowed := true }
def FnExactPathBoxUptoSaid : Prop := fnExactPathBoxUptoRow.holds Try.pinned (OpenSpec.upto fnExactPathBoxSpec)

/-- 'laws.FnExactPathBack', WHERE WHAT IT READS IS OF BULK AT MOST 1048576: true; the input reads as it did. -/
def fnExactPathBackUptoRow : OpenClaim := { program := "ytpeiefgkjfnfgaa", sum := "d7434748797c3f51a9227e4ae81e9cbc777c238be6f21a22464f6eaec2192ce7", func := "loop.example/closingsticks/laws.FnExactPathBack", spec := "fnExactPathBack", apart := false, narrowed := true }
def FnExactPathBackUptoSaid : Prop := fnExactPathBackUptoRow.holds Try.pinned (OpenSpec.upto fnExactPathBackSpec)

/-- 'laws.FnExactPathTurn', WHERE WHAT IT READS IS OF BULK AT MOST 1048576: true; the input reads as it did. -/
def fnExactPathTurnUptoRow : OpenClaim := { program := "ytpeiefgkjfnfgaa", sum := "d7434748797c3f51a9227e4ae81e9cbc777c238be6f21a22464f6eaec2192ce7", func := "loop.example/closingsticks/laws.FnExactPathTurn", spec := "fnExactPathTurn", apart := false, narrowed := true }
def FnExactPathTurnUptoSaid : Prop := fnExactPathTurnUptoRow.holds Try.pinned (OpenSpec.upto fnExactPathTurnSpec)

/-- 'laws.FnExactPathCorners', WHERE WHAT IT READS IS OF BULK AT MOST 1048576: true; the input reads as it did. -/
def fnExactPathCornersUptoRow : OpenClaim := { program := "ytpeiefgkjfnfgaa", sum := "d7434748797c3f51a9227e4ae81e9cbc777c238be6f21a22464f6eaec2192ce7", func := "loop.example/closingsticks/laws.FnExactPathCorners", spec := "fnExactPathCorners", apart := false, narrowed := true }
def FnExactPathCornersUptoSaid : Prop := fnExactPathCornersUptoRow.holds Try.pinned (OpenSpec.upto fnExactPathCornersSpec)

/-- 'laws.FnPath', WHERE WHAT IT READS IS OF BULK AT MOST 1048576: true; the input reads as it did. -/
def fnPathUptoRow : OpenClaim := { program := "ytpeiefgkjfnfgaa", sum := "d7434748797c3f51a9227e4ae81e9cbc777c238be6f21a22464f6eaec2192ce7", func := "loop.example/closingsticks/laws.FnPath", spec := "fnPath", apart := false, narrowed := true }
def FnPathUptoSaid : Prop := fnPathUptoRow.holds Try.pinned (OpenSpec.upto fnPathSpec)

/-- 'laws.FnExactPathBegin', WHERE WHAT IT READS IS OF BULK AT MOST 1048576: true; the input reads as it did. -/
def fnExactPathBeginUptoRow : OpenClaim := { program := "ytpeiefgkjfnfgaa", sum := "d7434748797c3f51a9227e4ae81e9cbc777c238be6f21a22464f6eaec2192ce7", func := "loop.example/closingsticks/laws.FnExactPathBegin", spec := "fnExactPathBegin", apart := false, narrowed := true }
def FnExactPathBeginUptoSaid : Prop := fnExactPathBeginUptoRow.holds Try.pinned (OpenSpec.upto fnExactPathBeginSpec)

/-- 'laws.FnExactPathConvex', WHERE WHAT IT READS IS OF BULK AT MOST 1048576: true; the input reads as it did. -/
def fnExactPathConvexUptoRow : OpenClaim := { program := "ytpeiefgkjfnfgaa", sum := "d7434748797c3f51a9227e4ae81e9cbc777c238be6f21a22464f6eaec2192ce7", func := "loop.example/closingsticks/laws.FnExactPathConvex", spec := "fnExactPathConvex", apart := false, narrowed := true }
def FnExactPathConvexUptoSaid : Prop := fnExactPathConvexUptoRow.holds Try.pinned (OpenSpec.upto fnExactPathConvexSpec)

end Rows
end Go.Proofs.Ytpeiefgkjfnfgaa
