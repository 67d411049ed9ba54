/-
  No cell of these rows narrows 'for every input' (looked for: loops, veiled, ifaces, maps, wideKeys, modest, calm, conditions, laid).
  DERIVED. THE GIVEN ROWS OF THIS SEAT. 12 by the template 'for every input the law returns true; each argument reads behind the call as it read before'; 0 by the template 'total and deterministic' (their statements: YtnhmdanimcebkaaTotals.lean).
  GIVEN WITH THE SEED: the statements are not yours to turn. If you find one false, say at which input.
  Laid BY PROGRAM, IN A SANDBOX (cutbox-rows.mjs): the forced cells as the released guide's own fill.sh prints them over the translation 4fced323dab5b41b… (all of the seat's roots in one cut). By AI agents, Wed Nov 11 2026. No macro, syntax, notation, axiom, sorry.
-/
import Derived.Test.YtnhmdanimcebkaaChecked
import GoSem.Claim
import GoSem.ClaimJoined
import GoSem.ClaimMapViews
import Derived.JoinedTies
import Derived.KernelRfl
namespace Go.Proofs.Ytnhmdanimcebkaa
/- THE CELL 'sum', in the pinned program and in every row, IS THE sha256 OF THE DUMP (.gsa) THAT YtnhmdanimcebkaaProg.lean LOADS. Nothing in Lean hashes anything: it is a label: what it is worth is what the hold of that sum in a sandbox is worth. -/
noncomputable def Try.pinned : Pinned := { name := "ytnhmdanimcebkaa", sum := "4fced323dab5b41b1ba2eb50fc930a8f1226a3832d05b9c31b438d3fe2ed9be8", checked := Try.checked }
namespace Rows
def none {H : Type} : Left H := { results := [], args := [] }

/-- 'laws.FnExactConstants': WHATEVER THE INPUT: true; the input reads as it did. -/
def fnExactConstantsSpec : ChangeSpec := { name := "fnExactConstants", fn := fun _ => fun
  | [] => { results := [.lit (.bool true)], args := [] }
  | _ => none }
def fnExactConstantsRow : OpenClaim := { program := "ytnhmdanimcebkaa", sum := "4fced323dab5b41b1ba2eb50fc930a8f1226a3832d05b9c31b438d3fe2ed9be8", func := "loop.example/g00387/laws.FnExactConstants", spec := "fnExactConstants", apart := false }
def FnExactConstantsSaid : Prop := fnExactConstantsRow.holds Try.pinned (OpenSpec.ofChange fnExactConstantsSpec)

/-- ITS FALSE NEIGHBOUR: 'it returns false'. Refute it at one input. -/
def fnExactConstantsWrong : ChangeSpec := { name := "fnExactConstants", fn := fun _ => fun
  | [] => { results := [.lit (.bool false)], args := [] }
  | _ => none }
def FnExactConstantsWrongFalsely : Prop := fnExactConstantsRow.holds Try.pinned (OpenSpec.ofChange fnExactConstantsWrong)

/-- 'laws.FnExactHalfRight': WHATEVER THE INPUT: true; the input reads as it did. -/
def fnExactHalfRightSpec : ChangeSpec := { name := "fnExactHalfRight", fn := fun _ => fun
  | [d] => { results := [.lit (.bool true)], args := [d] }
  | _ => none }
def fnExactHalfRightRow : OpenClaim := { program := "ytnhmdanimcebkaa", sum := "4fced323dab5b41b1ba2eb50fc930a8f1226a3832d05b9c31b438d3fe2ed9be8", func := "loop.example/g00387/laws.FnExactHalfRight", spec := "fnExactHalfRight", apart := false }
def FnExactHalfRightSaid : Prop := fnExactHalfRightRow.holds Try.pinned (OpenSpec.ofChange fnExactHalfRightSpec)

/-- ITS FALSE NEIGHBOUR: 'it returns false'. Refute it at one input. -/
def fnExactHalfRightWrong : ChangeSpec := { name := "fnExactHalfRight", fn := fun _ => fun
  | [d] => { results := [.lit (.bool false)], args := [d] }
  | _ => none }
def FnExactHalfRightWrongFalsely : Prop := fnExactHalfRightRow.holds Try.pinned (OpenSpec.ofChange fnExactHalfRightWrong)

/-- 'laws.FnExactPutNum': WHATEVER THE INPUT: true; the input reads as it did. -/
def fnExactPutNumSpec : ChangeSpec := { name := "fnExactPutNum", fn := fun _ => fun
  | [d] => { results := [.lit (.bool true)], args := [d] }
  | _ => none }
def fnExactPutNumRow : OpenClaim := { program := "ytnhmdanimcebkaa", sum := "4fced323dab5b41b1ba2eb50fc930a8f1226a3832d05b9c31b438d3fe2ed9be8", func := "loop.example/g00387/laws.FnExactPutNum", spec := "fnExactPutNum", apart := false }
def FnExactPutNumSaid : Prop := fnExactPutNumRow.holds Try.pinned (OpenSpec.ofChange fnExactPutNumSpec)

/-- ITS FALSE NEIGHBOUR: 'it returns false'. Refute it at one input. -/
def fnExactPutNumWrong : ChangeSpec := { name := "fnExactPutNum", fn := fun _ => fun
  | [d] => { results := [.lit (.bool false)], args := [d] }
  | _ => none }
def FnExactPutNumWrongFalsely : Prop := fnExactPutNumRow.holds Try.pinned (OpenSpec.ofChange fnExactPutNumWrong)

/-- 'laws.FnExactPutText': WHATEVER THE INPUT: true; the input reads as it did. -/
def fnExactPutTextSpec : ChangeSpec := { name := "fnExactPutText", fn := fun _ => fun
  | [d] => { results := [.lit (.bool true)], args := [d] }
  | _ => none }
def fnExactPutTextRow : OpenClaim := { program := "ytnhmdanimcebkaa", sum := "4fced323dab5b41b1ba2eb50fc930a8f1226a3832d05b9c31b438d3fe2ed9be8", func := "loop.example/g00387/laws.FnExactPutText", spec := "fnExactPutText", apart := false }
def FnExactPutTextSaid : Prop := fnExactPutTextRow.holds Try.pinned (OpenSpec.ofChange fnExactPutTextSpec)

/-- ITS FALSE NEIGHBOUR: 'it returns false'. Refute it at one input. -/
def fnExactPutTextWrong : ChangeSpec := { name := "fnExactPutText", fn := fun _ => fun
  | [d] => { results := [.lit (.bool false)], args := [d] }
  | _ => none }
def FnExactPutTextWrongFalsely : Prop := fnExactPutTextRow.holds Try.pinned (OpenSpec.ofChange fnExactPutTextWrong)

/-- 'laws.FnExactHalfShow': WHATEVER THE INPUT: true; the input reads as it did. -/
def fnExactHalfShowSpec : ChangeSpec := { name := "fnExactHalfShow", fn := fun _ => fun
  | [d] => { results := [.lit (.bool true)], args := [d] }
  | _ => none }
def fnExactHalfShowRow : OpenClaim := { program := "ytnhmdanimcebkaa", sum := "4fced323dab5b41b1ba2eb50fc930a8f1226a3832d05b9c31b438d3fe2ed9be8", func := "loop.example/g00387/laws.FnExactHalfShow", spec := "fnExactHalfShow", apart := false }
def FnExactHalfShowSaid : Prop := fnExactHalfShowRow.holds Try.pinned (OpenSpec.ofChange fnExactHalfShowSpec)

/-- ITS FALSE NEIGHBOUR: 'it returns false'. Refute it at one input. -/
def fnExactHalfShowWrong : ChangeSpec := { name := "fnExactHalfShow", fn := fun _ => fun
  | [d] => { results := [.lit (.bool false)], args := [d] }
  | _ => none }
def FnExactHalfShowWrongFalsely : Prop := fnExactHalfShowRow.holds Try.pinned (OpenSpec.ofChange fnExactHalfShowWrong)

/-- 'laws.FnExactCrc': WHATEVER THE INPUT: true; the input reads as it did. -/
def fnExactCrcSpec : ChangeSpec := { name := "fnExactCrc", fn := fun _ => fun
  | [d] => { results := [.lit (.bool true)], args := [d] }
  | _ => none }
def fnExactCrcRow : OpenClaim := { program := "ytnhmdanimcebkaa", sum := "4fced323dab5b41b1ba2eb50fc930a8f1226a3832d05b9c31b438d3fe2ed9be8", func := "loop.example/g00387/laws.FnExactCrc", spec := "fnExactCrc", apart := false }
def FnExactCrcSaid : Prop := fnExactCrcRow.holds Try.pinned (OpenSpec.ofChange fnExactCrcSpec)

/-- ITS FALSE NEIGHBOUR: 'it returns false'. Refute it at one input. -/
def fnExactCrcWrong : ChangeSpec := { name := "fnExactCrc", fn := fun _ => fun
  | [d] => { results := [.lit (.bool false)], args := [d] }
  | _ => none }
def FnExactCrcWrongFalsely : Prop := fnExactCrcRow.holds Try.pinned (OpenSpec.ofChange fnExactCrcWrong)

/-- 'laws.FnTwo': WHATEVER THE INPUT: true; the input reads as it did. -/
def fnTwoSpec : ChangeSpec := { name := "fnTwo", fn := fun _ => fun
  | [d] => { results := [.lit (.bool true)], args := [d] }
  | _ => none }
def fnTwoRow : OpenClaim := { program := "ytnhmdanimcebkaa", sum := "4fced323dab5b41b1ba2eb50fc930a8f1226a3832d05b9c31b438d3fe2ed9be8", func := "loop.example/g00387/laws.FnTwo", spec := "fnTwo", unfollowed := true, recurses := true, apart := false }
def FnTwoSaid : Prop := fnTwoRow.holds Try.pinned (OpenSpec.ofChange fnTwoSpec)

/-- ITS FALSE NEIGHBOUR: 'it returns false'. Refute it at one input. -/
def fnTwoWrong : ChangeSpec := { name := "fnTwo", fn := fun _ => fun
  | [d] => { results := [.lit (.bool false)], args := [d] }
  | _ => none }
def FnTwoWrongFalsely : Prop := fnTwoRow.holds Try.pinned (OpenSpec.ofChange fnTwoWrong)

/-- 'laws.FnExactCrcMore': WHATEVER THE INPUT: true; the input reads as it did. -/
def fnExactCrcMoreSpec : ChangeSpec := { name := "fnExactCrcMore", fn := fun _ => fun
  | [d1, d2] => { results := [.lit (.bool true)], args := [d1, d2] }
  | _ => none }
def fnExactCrcMoreRow : OpenClaim := { program := "ytnhmdanimcebkaa", sum := "4fced323dab5b41b1ba2eb50fc930a8f1226a3832d05b9c31b438d3fe2ed9be8", func := "loop.example/g00387/laws.FnExactCrcMore", spec := "fnExactCrcMore", apart := false }
def FnExactCrcMoreSaid : Prop := fnExactCrcMoreRow.holds Try.pinned (OpenSpec.ofChange fnExactCrcMoreSpec)

/-- ITS FALSE NEIGHBOUR: 'it returns false'. Refute it at one input. -/
def fnExactCrcMoreWrong : ChangeSpec := { name := "fnExactCrcMore", fn := fun _ => fun
  | [d1, d2] => { results := [.lit (.bool false)], args := [d1, d2] }
  | _ => none }
def FnExactCrcMoreWrongFalsely : Prop := fnExactCrcMoreRow.holds Try.pinned (OpenSpec.ofChange fnExactCrcMoreWrong)

/-- 'laws.FnExactSeal': WHATEVER THE INPUT: true; the input reads as it did. -/
def fnExactSealSpec : ChangeSpec := { name := "fnExactSeal", fn := fun _ => fun
  | [d] => { results := [.lit (.bool true)], args := [d] }
  | _ => none }
def fnExactSealRow : OpenClaim := { program := "ytnhmdanimcebkaa", sum := "4fced323dab5b41b1ba2eb50fc930a8f1226a3832d05b9c31b438d3fe2ed9be8", func := "loop.example/g00387/laws.FnExactSeal", spec := "fnExactSeal", apart := false }
def FnExactSealSaid : Prop := fnExactSealRow.holds Try.pinned (OpenSpec.ofChange fnExactSealSpec)

/-- ITS FALSE NEIGHBOUR: 'it returns false'. Refute it at one input. -/
def fnExactSealWrong : ChangeSpec := { name := "fnExactSeal", fn := fun _ => fun
  | [d] => { results := [.lit (.bool false)], args := [d] }
  | _ => none }
def FnExactSealWrongFalsely : Prop := fnExactSealRow.holds Try.pinned (OpenSpec.ofChange fnExactSealWrong)

/-- 'laws.FnExactHalfName': WHATEVER THE INPUT: true; the input reads as it did. -/
def fnExactHalfNameSpec : ChangeSpec := { name := "fnExactHalfName", fn := fun _ => fun
  | [d] => { results := [.lit (.bool true)], args := [d] }
  | _ => none }
def fnExactHalfNameRow : OpenClaim := { program := "ytnhmdanimcebkaa", sum := "4fced323dab5b41b1ba2eb50fc930a8f1226a3832d05b9c31b438d3fe2ed9be8", func := "loop.example/g00387/laws.FnExactHalfName", spec := "fnExactHalfName", apart := false }
def FnExactHalfNameSaid : Prop := fnExactHalfNameRow.holds Try.pinned (OpenSpec.ofChange fnExactHalfNameSpec)

/-- ITS FALSE NEIGHBOUR: 'it returns false'. Refute it at one input. -/
def fnExactHalfNameWrong : ChangeSpec := { name := "fnExactHalfName", fn := fun _ => fun
  | [d] => { results := [.lit (.bool false)], args := [d] }
  | _ => none }
def FnExactHalfNameWrongFalsely : Prop := fnExactHalfNameRow.holds Try.pinned (OpenSpec.ofChange fnExactHalfNameWrong)

/-- 'laws.FnExactUnseal': WHATEVER THE INPUT: true; the input reads as it did. -/
def fnExactUnsealSpec : ChangeSpec := { name := "fnExactUnseal", fn := fun _ => fun
  | [d] => { results := [.lit (.bool true)], args := [d] }
  | _ => none }
def fnExactUnsealRow : OpenClaim := { program := "ytnhmdanimcebkaa", sum := "4fced323dab5b41b1ba2eb50fc930a8f1226a3832d05b9c31b438d3fe2ed9be8", func := "loop.example/g00387/laws.FnExactUnseal", spec := "fnExactUnseal", apart := false }
def FnExactUnsealSaid : Prop := fnExactUnsealRow.holds Try.pinned (OpenSpec.ofChange fnExactUnsealSpec)

/-- ITS FALSE NEIGHBOUR: 'it returns false'. Refute it at one input. -/
def fnExactUnsealWrong : ChangeSpec := { name := "fnExactUnseal", fn := fun _ => fun
  | [d] => { results := [.lit (.bool false)], args := [d] }
  | _ => none }
def FnExactUnsealWrongFalsely : Prop := fnExactUnsealRow.holds Try.pinned (OpenSpec.ofChange fnExactUnsealWrong)

/-- 'laws.FnExactHalfDrop': WHATEVER THE INPUT: true; the input reads as it did. -/
def fnExactHalfDropSpec : ChangeSpec := { name := "fnExactHalfDrop", fn := fun _ => fun
  | [d] => { results := [.lit (.bool true)], args := [d] }
  | _ => none }
def fnExactHalfDropRow : OpenClaim := { program := "ytnhmdanimcebkaa", sum := "4fced323dab5b41b1ba2eb50fc930a8f1226a3832d05b9c31b438d3fe2ed9be8", func := "loop.example/g00387/laws.FnExactHalfDrop", spec := "fnExactHalfDrop", apart := false }
def FnExactHalfDropSaid : Prop := fnExactHalfDropRow.holds Try.pinned (OpenSpec.ofChange fnExactHalfDropSpec)

/-- ITS FALSE NEIGHBOUR: 'it returns false'. Refute it at one input. -/
def fnExactHalfDropWrong : ChangeSpec := { name := "fnExactHalfDrop", fn := fun _ => fun
  | [d] => { results := [.lit (.bool false)], args := [d] }
  | _ => none }
def FnExactHalfDropWrongFalsely : Prop := fnExactHalfDropRow.holds Try.pinned (OpenSpec.ofChange fnExactHalfDropWrong)

/- THE SECOND FORM. 'bulk': how many values and letters a reading holds, each counted each time it is reached (what is shared counts as often as it is met; a slice's spare places count too). A statement '..UptoSaid' is the law's where the arguments, and the package variables that the reading takes, are together of bulk at most 1048576: NARROWER than '..Said'. Prove '..Said' where nothing that the law and all that it calls make is longer than what came in: it says more and counts as full. Else prove '..UptoSaid'. A law counts once. -/
mutual
def uptoBulk {H : Type} : DataW H → Nat
  | .lit (.string bytes) => bytes.length + 1
  | .lit _ => 1
  | .nil => 1
  | .ptr d => uptoBulk d + 1
  | .slice elems spare => uptoBulkAll elems + uptoBulkAll spare + 1
  | .agg parts => uptoBulkAll parts + 1
  | .iface _ d => uptoBulk d + 1
  | .map entries => uptoBulkEntries entries + 1
  | .held _ => 1
def uptoBulkAll {H : Type} : List (DataW H) → Nat
  | [] => 0
  | d :: r => uptoBulk d + uptoBulkAll r
def uptoBulkEntries {H : Type} : List (Lit × DataW H) → Nat
  | [] => 0
  | x :: r => uptoBulkEntry x + uptoBulkEntries r
def uptoBulkEntry {H : Type} : Lit × DataW H → Nat
  | (.string bytes, d) => bytes.length + uptoBulk d + 1
  | (_, d) => uptoBulk d + 1
 end
def uptoSmall : (H : Type) → List (DataW H) → Bool := fun _ ds => decide (uptoBulkAll ds ≤ 1048576)
def OpenSpec.upto (s : _root_.Go.ChangeSpec) : _root_.Go.OpenSpec := { _root_.Go.OpenSpec.ofChange s with cond := some uptoSmall }

/-- 'laws.FnExactConstants', WHERE WHAT IT READS IS OF BULK AT MOST 1048576: true; the input reads as it did. -/
def fnExactConstantsUptoRow : OpenClaim := { program := "ytnhmdanimcebkaa", sum := "4fced323dab5b41b1ba2eb50fc930a8f1226a3832d05b9c31b438d3fe2ed9be8", func := "loop.example/g00387/laws.FnExactConstants", spec := "fnExactConstants", apart := false, narrowed := true }
def FnExactConstantsUptoSaid : Prop := fnExactConstantsUptoRow.holds Try.pinned (OpenSpec.upto fnExactConstantsSpec)

/-- 'laws.FnExactHalfRight', WHERE WHAT IT READS IS OF BULK AT MOST 1048576: true; the input reads as it did. -/
def fnExactHalfRightUptoRow : OpenClaim := { program := "ytnhmdanimcebkaa", sum := "4fced323dab5b41b1ba2eb50fc930a8f1226a3832d05b9c31b438d3fe2ed9be8", func := "loop.example/g00387/laws.FnExactHalfRight", spec := "fnExactHalfRight", apart := false, narrowed := true }
def FnExactHalfRightUptoSaid : Prop := fnExactHalfRightUptoRow.holds Try.pinned (OpenSpec.upto fnExactHalfRightSpec)

/-- 'laws.FnExactPutNum', WHERE WHAT IT READS IS OF BULK AT MOST 1048576: true; the input reads as it did. -/
def fnExactPutNumUptoRow : OpenClaim := { program := "ytnhmdanimcebkaa", sum := "4fced323dab5b41b1ba2eb50fc930a8f1226a3832d05b9c31b438d3fe2ed9be8", func := "loop.example/g00387/laws.FnExactPutNum", spec := "fnExactPutNum", apart := false, narrowed := true }
def FnExactPutNumUptoSaid : Prop := fnExactPutNumUptoRow.holds Try.pinned (OpenSpec.upto fnExactPutNumSpec)

/-- 'laws.FnExactPutText', WHERE WHAT IT READS IS OF BULK AT MOST 1048576: true; the input reads as it did. -/
def fnExactPutTextUptoRow : OpenClaim := { program := "ytnhmdanimcebkaa", sum := "4fced323dab5b41b1ba2eb50fc930a8f1226a3832d05b9c31b438d3fe2ed9be8", func := "loop.example/g00387/laws.FnExactPutText", spec := "fnExactPutText", apart := false, narrowed := true }
def FnExactPutTextUptoSaid : Prop := fnExactPutTextUptoRow.holds Try.pinned (OpenSpec.upto fnExactPutTextSpec)

/-- 'laws.FnExactHalfShow', WHERE WHAT IT READS IS OF BULK AT MOST 1048576: true; the input reads as it did. -/
def fnExactHalfShowUptoRow : OpenClaim := { program := "ytnhmdanimcebkaa", sum := "4fced323dab5b41b1ba2eb50fc930a8f1226a3832d05b9c31b438d3fe2ed9be8", func := "loop.example/g00387/laws.FnExactHalfShow", spec := "fnExactHalfShow", apart := false, narrowed := true }
def FnExactHalfShowUptoSaid : Prop := fnExactHalfShowUptoRow.holds Try.pinned (OpenSpec.upto fnExactHalfShowSpec)

/-- 'laws.FnExactCrc', WHERE WHAT IT READS IS OF BULK AT MOST 1048576: true; the input reads as it did. -/
def fnExactCrcUptoRow : OpenClaim := { program := "ytnhmdanimcebkaa", sum := "4fced323dab5b41b1ba2eb50fc930a8f1226a3832d05b9c31b438d3fe2ed9be8", func := "loop.example/g00387/laws.FnExactCrc", spec := "fnExactCrc", apart := false, narrowed := true }
def FnExactCrcUptoSaid : Prop := fnExactCrcUptoRow.holds Try.pinned (OpenSpec.upto fnExactCrcSpec)

/-- 'laws.FnTwo', WHERE WHAT IT READS IS OF BULK AT MOST 1048576: true; the input reads as it did. -/
def fnTwoUptoRow : OpenClaim := { program := "ytnhmdanimcebkaa", sum := "4fced323dab5b41b1ba2eb50fc930a8f1226a3832d05b9c31b438d3fe2ed9be8", func := "loop.example/g00387/laws.FnTwo", spec := "fnTwo", unfollowed := true, recurses := true, apart := false, narrowed := true }
def FnTwoUptoSaid : Prop := fnTwoUptoRow.holds Try.pinned (OpenSpec.upto fnTwoSpec)

/-- 'laws.FnExactCrcMore', WHERE WHAT IT READS IS OF BULK AT MOST 1048576: true; the input reads as it did. -/
def fnExactCrcMoreUptoRow : OpenClaim := { program := "ytnhmdanimcebkaa", sum := "4fced323dab5b41b1ba2eb50fc930a8f1226a3832d05b9c31b438d3fe2ed9be8", func := "loop.example/g00387/laws.FnExactCrcMore", spec := "fnExactCrcMore", apart := false, narrowed := true }
def FnExactCrcMoreUptoSaid : Prop := fnExactCrcMoreUptoRow.holds Try.pinned (OpenSpec.upto fnExactCrcMoreSpec)

/-- 'laws.FnExactSeal', WHERE WHAT IT READS IS OF BULK AT MOST 1048576: true; the input reads as it did. -/
def fnExactSealUptoRow : OpenClaim := { program := "ytnhmdanimcebkaa", sum := "4fced323dab5b41b1ba2eb50fc930a8f1226a3832d05b9c31b438d3fe2ed9be8", func := "loop.example/g00387/laws.FnExactSeal", spec := "fnExactSeal", apart := false, narrowed := true }
def FnExactSealUptoSaid : Prop := fnExactSealUptoRow.holds Try.pinned (OpenSpec.upto fnExactSealSpec)

/-- 'laws.FnExactHalfName', WHERE WHAT IT READS IS OF BULK AT MOST 1048576: true; the input reads as it did. -/
def fnExactHalfNameUptoRow : OpenClaim := { program := "ytnhmdanimcebkaa", sum := "4fced323dab5b41b1ba2eb50fc930a8f1226a3832d05b9c31b438d3fe2ed9be8", func := "loop.example/g00387/laws.FnExactHalfName", spec := "fnExactHalfName", apart := false, narrowed := true }
def FnExactHalfNameUptoSaid : Prop := fnExactHalfNameUptoRow.holds Try.pinned (OpenSpec.upto fnExactHalfNameSpec)

/-- 'laws.FnExactUnseal', WHERE WHAT IT READS IS OF BULK AT MOST 1048576: true; the input reads as it did. -/
def fnExactUnsealUptoRow : OpenClaim := { program := "ytnhmdanimcebkaa", sum := "4fced323dab5b41b1ba2eb50fc930a8f1226a3832d05b9c31b438d3fe2ed9be8", func := "loop.example/g00387/laws.FnExactUnseal", spec := "fnExactUnseal", apart := false, narrowed := true }
def FnExactUnsealUptoSaid : Prop := fnExactUnsealUptoRow.holds Try.pinned (OpenSpec.upto fnExactUnsealSpec)

/-- 'laws.FnExactHalfDrop', WHERE WHAT IT READS IS OF BULK AT MOST 1048576: true; the input reads as it did. -/
def fnExactHalfDropUptoRow : OpenClaim := { program := "ytnhmdanimcebkaa", sum := "4fced323dab5b41b1ba2eb50fc930a8f1226a3832d05b9c31b438d3fe2ed9be8", func := "loop.example/g00387/laws.FnExactHalfDrop", spec := "fnExactHalfDrop", apart := false, narrowed := true }
def FnExactHalfDropUptoSaid : Prop := fnExactHalfDropUptoRow.holds Try.pinned (OpenSpec.upto fnExactHalfDropSpec)

end Rows
end Go.Proofs.Ytnhmdanimcebkaa
