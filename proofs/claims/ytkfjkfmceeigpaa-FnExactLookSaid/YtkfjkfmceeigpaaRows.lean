/-
  No cell of these rows narrows 'for every input' (looked for: loops, veiled, ifaces, maps, wideKeys, modest, calm, conditions, laid).
  DERIVED. THE GIVEN ROWS OF THIS SEAT. 5 by the template 'for every input the law returns true; each argument reads behind the call as it read before'; 0 by the template 'total and deterministic' (their statements: YtkfjkfmceeigpaaTotals.lean).
  GIVEN WITH THE SEED: the statements are not yours to turn. If you find one false, say at which input.
  Laid BY PROGRAM, IN A SANDBOX (cutbox-rows.mjs): the forced cells as the released guide's own fill.sh prints them over the translation 08790234ff526d0e… (all of the seat's roots in one cut). By AI agents, Wed Nov 11 2026. No macro, syntax, notation, axiom, sorry.
-/
import Derived.Test.YtkfjkfmceeigpaaChecked
import GoSem.Claim
import GoSem.ClaimJoined
import GoSem.ClaimMapViews
import Derived.JoinedTies
import Derived.KernelRfl
namespace Go.Proofs.Ytkfjkfmceeigpaa
/- THE CELL 'sum', in the pinned program and in every row, IS THE sha256 OF THE DUMP (.gsa) THAT YtkfjkfmceeigpaaProg.lean LOADS. Nothing in Lean hashes anything: it is a label: what it is worth is what the hold of that sum in a sandbox is worth. -/
noncomputable def Try.pinned : Pinned := { name := "ytkfjkfmceeigpaa", sum := "08790234ff526d0e35fcf94588590307b15ee84d060cae20d00c8725007724d9", checked := Try.checked }
namespace Rows
def none {H : Type} : Left H := { results := [], args := [] }

/-- 'laws.FnExactNewSt': WHATEVER THE INPUT: true; the input reads as it did. -/
def fnExactNewStSpec : ChangeSpec := { name := "fnExactNewSt", fn := fun _ => fun
  | [d1, d2, d3] => { results := [.lit (.bool true)], args := [d1, d2, d3] }
  | _ => none }
def fnExactNewStRow : OpenClaim := { program := "ytkfjkfmceeigpaa", sum := "08790234ff526d0e35fcf94588590307b15ee84d060cae20d00c8725007724d9", func := "loop.example/g00711/laws.FnExactNewSt", spec := "fnExactNewSt", apart := false }
def FnExactNewStSaid : Prop := fnExactNewStRow.holds Try.pinned (OpenSpec.ofChange fnExactNewStSpec)

/-- ITS FALSE NEIGHBOUR: 'it returns false'. Refute it at one input. -/
def fnExactNewStWrong : ChangeSpec := { name := "fnExactNewSt", fn := fun _ => fun
  | [d1, d2, d3] => { results := [.lit (.bool false)], args := [d1, d2, d3] }
  | _ => none }
def FnExactNewStWrongFalsely : Prop := fnExactNewStRow.holds Try.pinned (OpenSpec.ofChange fnExactNewStWrong)

/-- 'laws.FnExactLook': WHATEVER THE INPUT: true; the input reads as it did. -/
def fnExactLookSpec : ChangeSpec := { name := "fnExactLook", fn := fun _ => fun
  | [d1, d2] => { results := [.lit (.bool true)], args := [d1, d2] }
  | _ => none }
def fnExactLookRow : OpenClaim := { program := "ytkfjkfmceeigpaa", sum := "08790234ff526d0e35fcf94588590307b15ee84d060cae20d00c8725007724d9", func := "loop.example/g00711/laws.FnExactLook", spec := "fnExactLook", apart := false }
def FnExactLookSaid : Prop := fnExactLookRow.holds Try.pinned (OpenSpec.ofChange fnExactLookSpec)

/-- ITS FALSE NEIGHBOUR: 'it returns false'. Refute it at one input. -/
def fnExactLookWrong : ChangeSpec := { name := "fnExactLook", fn := fun _ => fun
  | [d1, d2] => { results := [.lit (.bool false)], args := [d1, d2] }
  | _ => none }
def FnExactLookWrongFalsely : Prop := fnExactLookRow.holds Try.pinned (OpenSpec.ofChange fnExactLookWrong)

/-- 'laws.FnExactLevel': WHATEVER THE INPUT: true; the input reads as it did. -/
def fnExactLevelSpec : ChangeSpec := { name := "fnExactLevel", fn := fun _ => fun
  | [d] => { results := [.lit (.bool true)], args := [d] }
  | _ => none }
def fnExactLevelRow : OpenClaim := { program := "ytkfjkfmceeigpaa", sum := "08790234ff526d0e35fcf94588590307b15ee84d060cae20d00c8725007724d9", func := "loop.example/g00711/laws.FnExactLevel", spec := "fnExactLevel", apart := false }
def FnExactLevelSaid : Prop := fnExactLevelRow.holds Try.pinned (OpenSpec.ofChange fnExactLevelSpec)

/-- ITS FALSE NEIGHBOUR: 'it returns false'. Refute it at one input. -/
def fnExactLevelWrong : ChangeSpec := { name := "fnExactLevel", fn := fun _ => fun
  | [d] => { results := [.lit (.bool false)], args := [d] }
  | _ => none }
def FnExactLevelWrongFalsely : Prop := fnExactLevelRow.holds Try.pinned (OpenSpec.ofChange fnExactLevelWrong)

/-- 'laws.FnExactPushN': WHATEVER THE INPUT: true; the input reads as it did. -/
def fnExactPushNSpec : ChangeSpec := { name := "fnExactPushN", fn := fun _ => fun
  | [d1, d2] => { results := [.lit (.bool true)], args := [d1, d2] }
  | _ => none }
def fnExactPushNRow : OpenClaim := { program := "ytkfjkfmceeigpaa", sum := "08790234ff526d0e35fcf94588590307b15ee84d060cae20d00c8725007724d9", func := "loop.example/g00711/laws.FnExactPushN", spec := "fnExactPushN", apart := false }
def FnExactPushNSaid : Prop := fnExactPushNRow.holds Try.pinned (OpenSpec.ofChange fnExactPushNSpec)

/-- ITS FALSE NEIGHBOUR: 'it returns false'. Refute it at one input. -/
def fnExactPushNWrong : ChangeSpec := { name := "fnExactPushN", fn := fun _ => fun
  | [d1, d2] => { results := [.lit (.bool false)], args := [d1, d2] }
  | _ => none }
def FnExactPushNWrongFalsely : Prop := fnExactPushNRow.holds Try.pinned (OpenSpec.ofChange fnExactPushNWrong)

/-- 'laws.FnExactNewWorld': WHATEVER THE INPUT: true; the input reads as it did. -/
def fnExactNewWorldSpec : ChangeSpec := { name := "fnExactNewWorld", fn := fun _ => fun
  | [d1, d2, d3] => { results := [.lit (.bool true)], args := [d1, d2, d3] }
  | _ => none }
def fnExactNewWorldRow : OpenClaim := { program := "ytkfjkfmceeigpaa", sum := "08790234ff526d0e35fcf94588590307b15ee84d060cae20d00c8725007724d9", func := "loop.example/g00711/laws.FnExactNewWorld", spec := "fnExactNewWorld", apart := false }
def FnExactNewWorldSaid : Prop := fnExactNewWorldRow.holds Try.pinned (OpenSpec.ofChange fnExactNewWorldSpec)

/-- ITS FALSE NEIGHBOUR: 'it returns false'. Refute it at one input. -/
def fnExactNewWorldWrong : ChangeSpec := { name := "fnExactNewWorld", fn := fun _ => fun
  | [d1, d2, d3] => { results := [.lit (.bool false)], args := [d1, d2, d3] }
  | _ => none }
def FnExactNewWorldWrongFalsely : Prop := fnExactNewWorldRow.holds Try.pinned (OpenSpec.ofChange fnExactNewWorldWrong)

/- THE SECOND FORM. 'bulk': how many values and letters a reading holds, each counted each time it is reached (what is shared counts as often as it is met; a slice's spare places count too). A statement '..UptoSaid' is the law's where the arguments, and the package variables that the reading takes, are together of bulk at most 1048576: NARROWER than '..Said'. Prove '..Said' where nothing that the law and all that it calls make is longer than what came in: it says more and counts as full. Else prove '..UptoSaid'. A law counts once. -/
mutual
def uptoBulk {H : Type} : DataW H → Nat
  | .lit (.string bytes) => bytes.length + 1
  | .lit _ => 1
  | .nil => 1
  | .ptr d => uptoBulk d + 1
  | .slice elems spare => uptoBulkAll elems + uptoBulkAll spare + 1
  | .agg parts => uptoBulkAll parts + 1
  | .iface _ d => uptoBulk d + 1
  | .map entries => uptoBulkEntries entries + 1
  | .held _ => 1
def uptoBulkAll {H : Type} : List (DataW H) → Nat
  | [] => 0
  | d :: r => uptoBulk d + uptoBulkAll r
def uptoBulkEntries {H : Type} : List (Lit × DataW H) → Nat
  | [] => 0
  | x :: r => uptoBulkEntry x + uptoBulkEntries r
def uptoBulkEntry {H : Type} : Lit × DataW H → Nat
  | (.string bytes, d) => bytes.length + uptoBulk d + 1
  | (_, d) => uptoBulk d + 1
 end
def uptoSmall : (H : Type) → List (DataW H) → Bool := fun _ ds => decide (uptoBulkAll ds ≤ 1048576)
def OpenSpec.upto (s : _root_.Go.ChangeSpec) : _root_.Go.OpenSpec := { _root_.Go.OpenSpec.ofChange s with cond := some uptoSmall }

/-- 'laws.FnExactNewSt', WHERE WHAT IT READS IS OF BULK AT MOST 1048576: true; the input reads as it did. -/
def fnExactNewStUptoRow : OpenClaim := { program := "ytkfjkfmceeigpaa", sum := "08790234ff526d0e35fcf94588590307b15ee84d060cae20d00c8725007724d9", func := "loop.example/g00711/laws.FnExactNewSt", spec := "fnExactNewSt", apart := false, narrowed := true }
def FnExactNewStUptoSaid : Prop := fnExactNewStUptoRow.holds Try.pinned (OpenSpec.upto fnExactNewStSpec)

/-- 'laws.FnExactLook', WHERE WHAT IT READS IS OF BULK AT MOST 1048576: true; the input reads as it did. -/
def fnExactLookUptoRow : OpenClaim := { program := "ytkfjkfmceeigpaa", sum := "08790234ff526d0e35fcf94588590307b15ee84d060cae20d00c8725007724d9", func := "loop.example/g00711/laws.FnExactLook", spec := "fnExactLook", apart := false, narrowed := true }
def FnExactLookUptoSaid : Prop := fnExactLookUptoRow.holds Try.pinned (OpenSpec.upto fnExactLookSpec)

/-- 'laws.FnExactLevel', WHERE WHAT IT READS IS OF BULK AT MOST 1048576: true; the input reads as it did. -/
def fnExactLevelUptoRow : OpenClaim := { program := "ytkfjkfmceeigpaa", sum := "08790234ff526d0e35fcf94588590307b15ee84d060cae20d00c8725007724d9", func := "loop.example/g00711/laws.FnExactLevel", spec := "fnExactLevel", apart := false, narrowed := true }
def FnExactLevelUptoSaid : Prop := fnExactLevelUptoRow.holds Try.pinned (OpenSpec.upto fnExactLevelSpec)

/-- 'laws.FnExactPushN', WHERE WHAT IT READS IS OF BULK AT MOST 1048576: true; the input reads as it did. -/
def fnExactPushNUptoRow : OpenClaim := { program := "ytkfjkfmceeigpaa", sum := "08790234ff526d0e35fcf94588590307b15ee84d060cae20d00c8725007724d9", func := "loop.example/g00711/laws.FnExactPushN", spec := "fnExactPushN", apart := false, narrowed := true }
def FnExactPushNUptoSaid : Prop := fnExactPushNUptoRow.holds Try.pinned (OpenSpec.upto fnExactPushNSpec)

/-- 'laws.FnExactNewWorld', WHERE WHAT IT READS IS OF BULK AT MOST 1048576: true; the input reads as it did. -/
def fnExactNewWorldUptoRow : OpenClaim := { program := "ytkfjkfmceeigpaa", sum := "08790234ff526d0e35fcf94588590307b15ee84d060cae20d00c8725007724d9", func := "loop.example/g00711/laws.FnExactNewWorld", spec := "fnExactNewWorld", apart := false, narrowed := true }
def FnExactNewWorldUptoSaid : Prop := fnExactNewWorldUptoRow.holds Try.pinned (OpenSpec.upto fnExactNewWorldSpec)

end Rows
end Go.Proofs.Ytkfjkfmceeigpaa
