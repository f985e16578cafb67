/-
  NARROWER THAN 'FOR EVERY INPUT', by the rows' own cells (each row's printed sentence says how): FnExactSpanMul: laid · FnExactSpanAdd: laid · FnExactSpanSub: laid · FnExactBackTop: laid · FnFloatFrac: laid · FnExactFloatNear: laid · FnExactSpanDivTwo: laid · FnExactSpanDiv: laid · FnExactBackMulGap: laid · FnExactBackMul: laid · FnExactBackBottom: laid · FnFloatRound: laid.
  DERIVED. THE GIVEN ROWS OF THIS SEAT. 12 by the template 'for every input the law returns true; each argument reads behind the call as it read before'; 0 by the template 'total and deterministic' (their statements: YtkbfckjhgdgdbaaDoorTotals.lean).
  GIVEN WITH THE SEED: the statements are not yours to turn. If you find one false, say at which input.
  Laid BY PROGRAM, IN A SANDBOX (cutbox-rows.mjs): the forced cells as the released guide's own fill.sh prints them over the translation d7ead7c0b23c0767… (all of the seat's roots in one cut). By AI agents, Wed Nov 11 2026. No macro, syntax, notation, axiom, sorry.
-/
import Derived.Test.YtkbfckjhgdgdbaaDoorChecked
import GoSem.Claim
import GoSem.ClaimJoined
import GoSem.ClaimMapViews
import Derived.JoinedTies
import Derived.KernelRfl
namespace Go.Proofs.YtkbfckjhgdgdbaaDoor
/- THE CELL 'sum', in the pinned program and in every row, IS THE sha256 OF THE DUMP (.gsa) THAT YtkbfckjhgdgdbaaDoorProg.lean LOADS. Nothing in Lean hashes anything: it is a label: what it is worth is what the hold of that sum in a sandbox is worth. -/
noncomputable def Tryd.pinned : Pinned := { name := "ytkbfckjhgdgdbaadoor", sum := "d7ead7c0b23c076768f2cc869e3a163d95e9157f87c1bc0f4a5728278cbbdab7", checked := Tryd.checked }
namespace Rows
def none {H : Type} : Left H := { results := [], args := [] }

/- WHAT THE LISTED PACKAGE-LEVEL VARIABLES READ AS WHEN THE CALL BEGINS. Each datum BY PROGRAM (the guide's laid-datum.mjs) off the statement by which the dump's own 'gosem.cut.vars' lays the variable. In a bare row this is a premise. The card (YtkbfckjhgdgdbaaDoorCards.lean) ties it to the program's text. -/
def laid_math_bits_deBruijn64tab {H : Type} : DataW H := .agg [.lit (.int .u8 0), .lit (.int .u8 1), .lit (.int .u8 56), .lit (.int .u8 2), .lit (.int .u8 57), .lit (.int .u8 49), .lit (.int .u8 28), .lit (.int .u8 3), .lit (.int .u8 61), .lit (.int .u8 58), .lit (.int .u8 42), .lit (.int .u8 50), .lit (.int .u8 38), .lit (.int .u8 29), .lit (.int .u8 17), .lit (.int .u8 4), .lit (.int .u8 62), .lit (.int .u8 47), .lit (.int .u8 59), .lit (.int .u8 36), .lit (.int .u8 45), .lit (.int .u8 43), .lit (.int .u8 51), .lit (.int .u8 22), .lit (.int .u8 53), .lit (.int .u8 39), .lit (.int .u8 33), .lit (.int .u8 30), .lit (.int .u8 24), .lit (.int .u8 18), .lit (.int .u8 12), .lit (.int .u8 5), .lit (.int .u8 63), .lit (.int .u8 55), .lit (.int .u8 48), .lit (.int .u8 27), .lit (.int .u8 60), .lit (.int .u8 41), .lit (.int .u8 37), .lit (.int .u8 16), .lit (.int .u8 46), .lit (.int .u8 35), .lit (.int .u8 44), .lit (.int .u8 21), .lit (.int .u8 52), .lit (.int .u8 32), .lit (.int .u8 23), .lit (.int .u8 11), .lit (.int .u8 54), .lit (.int .u8 26), .lit (.int .u8 40), .lit (.int .u8 15), .lit (.int .u8 34), .lit (.int .u8 20), .lit (.int .u8 31), .lit (.int .u8 10), .lit (.int .u8 25), .lit (.int .u8 14), .lit (.int .u8 19), .lit (.int .u8 9), .lit (.int .u8 13), .lit (.int .u8 8), .lit (.int .u8 7), .lit (.int .u8 6)]

/-- 'laws.FnExactSpanMul': WHATEVER THE INPUT: true; the input reads as it did. -/
def fnExactSpanMulSpec : ChangeSpec := { name := "fnExactSpanMul", fn := fun _ => fun
  | [d1, d2, d3] => { results := [.lit (.bool true)], args := [d1, d2, d3] }
  | _ => none }
def fnExactSpanMulRow : OpenClaim := { program := "ytkbfckjhgdgdbaadoor", sum := "d7ead7c0b23c076768f2cc869e3a163d95e9157f87c1bc0f4a5728278cbbdab7", func := "loop.example/pinfold/laws.FnExactSpanMul", spec := "fnExactSpanMul", named := ["math/bits.deBruijn64tab"], apart := false, laid := [("math/bits.deBruijn64tab", laid_math_bits_deBruijn64tab)] }
def FnExactSpanMulSaid : Prop := fnExactSpanMulRow.holds Tryd.pinned (OpenSpec.ofChange fnExactSpanMulSpec)

/-- ITS FALSE NEIGHBOUR: 'it returns false'. Refute it at one input. -/
def fnExactSpanMulWrong : ChangeSpec := { name := "fnExactSpanMul", fn := fun _ => fun
  | [d1, d2, d3] => { results := [.lit (.bool false)], args := [d1, d2, d3] }
  | _ => none }
def FnExactSpanMulWrongFalsely : Prop := fnExactSpanMulRow.holds Tryd.pinned (OpenSpec.ofChange fnExactSpanMulWrong)

/-- 'laws.FnExactSpanAdd': WHATEVER THE INPUT: true; the input reads as it did. -/
def fnExactSpanAddSpec : ChangeSpec := { name := "fnExactSpanAdd", fn := fun _ => fun
  | [d1, d2, d3] => { results := [.lit (.bool true)], args := [d1, d2, d3] }
  | _ => none }
def fnExactSpanAddRow : OpenClaim := { program := "ytkbfckjhgdgdbaadoor", sum := "d7ead7c0b23c076768f2cc869e3a163d95e9157f87c1bc0f4a5728278cbbdab7", func := "loop.example/pinfold/laws.FnExactSpanAdd", spec := "fnExactSpanAdd", unfollowed := true, recurses := true, named := ["math/bits.deBruijn64tab"], apart := false, laid := [("math/bits.deBruijn64tab", laid_math_bits_deBruijn64tab)] }
def FnExactSpanAddSaid : Prop := fnExactSpanAddRow.holds Tryd.pinned (OpenSpec.ofChange fnExactSpanAddSpec)

/-- ITS FALSE NEIGHBOUR: 'it returns false'. Refute it at one input. -/
def fnExactSpanAddWrong : ChangeSpec := { name := "fnExactSpanAdd", fn := fun _ => fun
  | [d1, d2, d3] => { results := [.lit (.bool false)], args := [d1, d2, d3] }
  | _ => none }
def FnExactSpanAddWrongFalsely : Prop := fnExactSpanAddRow.holds Tryd.pinned (OpenSpec.ofChange fnExactSpanAddWrong)

/-- 'laws.FnExactSpanSub': WHATEVER THE INPUT: true; the input reads as it did. -/
def fnExactSpanSubSpec : ChangeSpec := { name := "fnExactSpanSub", fn := fun _ => fun
  | [d1, d2, d3] => { results := [.lit (.bool true)], args := [d1, d2, d3] }
  | _ => none }
def fnExactSpanSubRow : OpenClaim := { program := "ytkbfckjhgdgdbaadoor", sum := "d7ead7c0b23c076768f2cc869e3a163d95e9157f87c1bc0f4a5728278cbbdab7", func := "loop.example/pinfold/laws.FnExactSpanSub", spec := "fnExactSpanSub", unfollowed := true, recurses := true, named := ["math/bits.deBruijn64tab"], apart := false, laid := [("math/bits.deBruijn64tab", laid_math_bits_deBruijn64tab)] }
def FnExactSpanSubSaid : Prop := fnExactSpanSubRow.holds Tryd.pinned (OpenSpec.ofChange fnExactSpanSubSpec)

/-- ITS FALSE NEIGHBOUR: 'it returns false'. Refute it at one input. -/
def fnExactSpanSubWrong : ChangeSpec := { name := "fnExactSpanSub", fn := fun _ => fun
  | [d1, d2, d3] => { results := [.lit (.bool false)], args := [d1, d2, d3] }
  | _ => none }
def FnExactSpanSubWrongFalsely : Prop := fnExactSpanSubRow.holds Tryd.pinned (OpenSpec.ofChange fnExactSpanSubWrong)

/-- 'laws.FnExactBackTop': WHATEVER THE INPUT: true; the input reads as it did. -/
def fnExactBackTopSpec : ChangeSpec := { name := "fnExactBackTop", fn := fun _ => fun
  | [d1, d2, d3, d4] => { results := [.lit (.bool true)], args := [d1, d2, d3, d4] }
  | _ => none }
def fnExactBackTopRow : OpenClaim := { program := "ytkbfckjhgdgdbaadoor", sum := "d7ead7c0b23c076768f2cc869e3a163d95e9157f87c1bc0f4a5728278cbbdab7", func := "loop.example/pinfold/laws.FnExactBackTop", spec := "fnExactBackTop", named := ["math/bits.deBruijn64tab"], apart := false, laid := [("math/bits.deBruijn64tab", laid_math_bits_deBruijn64tab)] }
def FnExactBackTopSaid : Prop := fnExactBackTopRow.holds Tryd.pinned (OpenSpec.ofChange fnExactBackTopSpec)

/-- ITS FALSE NEIGHBOUR: 'it returns false'. Refute it at one input. -/
def fnExactBackTopWrong : ChangeSpec := { name := "fnExactBackTop", fn := fun _ => fun
  | [d1, d2, d3, d4] => { results := [.lit (.bool false)], args := [d1, d2, d3, d4] }
  | _ => none }
def FnExactBackTopWrongFalsely : Prop := fnExactBackTopRow.holds Tryd.pinned (OpenSpec.ofChange fnExactBackTopWrong)

/-- 'laws.FnFloatFrac': WHATEVER THE INPUT: true; the input reads as it did. -/
def fnFloatFracSpec : ChangeSpec := { name := "fnFloatFrac", fn := fun _ => fun
  | [d1, d2] => { results := [.lit (.bool true)], args := [d1, d2] }
  | _ => none }
def fnFloatFracRow : OpenClaim := { program := "ytkbfckjhgdgdbaadoor", sum := "d7ead7c0b23c076768f2cc869e3a163d95e9157f87c1bc0f4a5728278cbbdab7", func := "loop.example/pinfold/laws.FnFloatFrac", spec := "fnFloatFrac", unfollowed := true, recurses := true, named := ["math/bits.deBruijn64tab"], apart := false, laid := [("math/bits.deBruijn64tab", laid_math_bits_deBruijn64tab)] }
def FnFloatFracSaid : Prop := fnFloatFracRow.holds Tryd.pinned (OpenSpec.ofChange fnFloatFracSpec)

/-- ITS FALSE NEIGHBOUR: 'it returns false'. Refute it at one input. -/
def fnFloatFracWrong : ChangeSpec := { name := "fnFloatFrac", fn := fun _ => fun
  | [d1, d2] => { results := [.lit (.bool false)], args := [d1, d2] }
  | _ => none }
def FnFloatFracWrongFalsely : Prop := fnFloatFracRow.holds Tryd.pinned (OpenSpec.ofChange fnFloatFracWrong)

/-- 'laws.FnExactFloatNear': WHATEVER THE INPUT: true; the input reads as it did. -/
def fnExactFloatNearSpec : ChangeSpec := { name := "fnExactFloatNear", fn := fun _ => fun
  | [d1, d2] => { results := [.lit (.bool true)], args := [d1, d2] }
  | _ => none }
def fnExactFloatNearRow : OpenClaim := { program := "ytkbfckjhgdgdbaadoor", sum := "d7ead7c0b23c076768f2cc869e3a163d95e9157f87c1bc0f4a5728278cbbdab7", func := "loop.example/pinfold/laws.FnExactFloatNear", spec := "fnExactFloatNear", unfollowed := true, recurses := true, named := ["math/bits.deBruijn64tab"], apart := false, laid := [("math/bits.deBruijn64tab", laid_math_bits_deBruijn64tab)] }
def FnExactFloatNearSaid : Prop := fnExactFloatNearRow.holds Tryd.pinned (OpenSpec.ofChange fnExactFloatNearSpec)

/-- ITS FALSE NEIGHBOUR: 'it returns false'. Refute it at one input. -/
def fnExactFloatNearWrong : ChangeSpec := { name := "fnExactFloatNear", fn := fun _ => fun
  | [d1, d2] => { results := [.lit (.bool false)], args := [d1, d2] }
  | _ => none }
def FnExactFloatNearWrongFalsely : Prop := fnExactFloatNearRow.holds Tryd.pinned (OpenSpec.ofChange fnExactFloatNearWrong)

/-- 'laws.FnExactSpanDivTwo': WHATEVER THE INPUT: true; the input reads as it did. -/
def fnExactSpanDivTwoSpec : ChangeSpec := { name := "fnExactSpanDivTwo", fn := fun _ => fun
  | [d1, d2, d3] => { results := [.lit (.bool true)], args := [d1, d2, d3] }
  | _ => none }
def fnExactSpanDivTwoRow : OpenClaim := { program := "ytkbfckjhgdgdbaadoor", sum := "d7ead7c0b23c076768f2cc869e3a163d95e9157f87c1bc0f4a5728278cbbdab7", func := "loop.example/pinfold/laws.FnExactSpanDivTwo", spec := "fnExactSpanDivTwo", unfollowed := true, recurses := true, named := ["math/bits.deBruijn64tab"], apart := false, laid := [("math/bits.deBruijn64tab", laid_math_bits_deBruijn64tab)] }
def FnExactSpanDivTwoSaid : Prop := fnExactSpanDivTwoRow.holds Tryd.pinned (OpenSpec.ofChange fnExactSpanDivTwoSpec)

/-- ITS FALSE NEIGHBOUR: 'it returns false'. Refute it at one input. -/
def fnExactSpanDivTwoWrong : ChangeSpec := { name := "fnExactSpanDivTwo", fn := fun _ => fun
  | [d1, d2, d3] => { results := [.lit (.bool false)], args := [d1, d2, d3] }
  | _ => none }
def FnExactSpanDivTwoWrongFalsely : Prop := fnExactSpanDivTwoRow.holds Tryd.pinned (OpenSpec.ofChange fnExactSpanDivTwoWrong)

/-- 'laws.FnExactSpanDiv': WHATEVER THE INPUT: true; the input reads as it did. -/
def fnExactSpanDivSpec : ChangeSpec := { name := "fnExactSpanDiv", fn := fun _ => fun
  | [d1, d2, d3] => { results := [.lit (.bool true)], args := [d1, d2, d3] }
  | _ => none }
def fnExactSpanDivRow : OpenClaim := { program := "ytkbfckjhgdgdbaadoor", sum := "d7ead7c0b23c076768f2cc869e3a163d95e9157f87c1bc0f4a5728278cbbdab7", func := "loop.example/pinfold/laws.FnExactSpanDiv", spec := "fnExactSpanDiv", unfollowed := true, recurses := true, named := ["math/bits.deBruijn64tab"], apart := false, laid := [("math/bits.deBruijn64tab", laid_math_bits_deBruijn64tab)] }
def FnExactSpanDivSaid : Prop := fnExactSpanDivRow.holds Tryd.pinned (OpenSpec.ofChange fnExactSpanDivSpec)

/-- ITS FALSE NEIGHBOUR: 'it returns false'. Refute it at one input. -/
def fnExactSpanDivWrong : ChangeSpec := { name := "fnExactSpanDiv", fn := fun _ => fun
  | [d1, d2, d3] => { results := [.lit (.bool false)], args := [d1, d2, d3] }
  | _ => none }
def FnExactSpanDivWrongFalsely : Prop := fnExactSpanDivRow.holds Tryd.pinned (OpenSpec.ofChange fnExactSpanDivWrong)

/-- 'laws.FnExactBackMulGap': WHATEVER THE INPUT: true; the input reads as it did. -/
def fnExactBackMulGapSpec : ChangeSpec := { name := "fnExactBackMulGap", fn := fun _ => fun
  | [d1, d2, d3, d4] => { results := [.lit (.bool true)], args := [d1, d2, d3, d4] }
  | _ => none }
def fnExactBackMulGapRow : OpenClaim := { program := "ytkbfckjhgdgdbaadoor", sum := "d7ead7c0b23c076768f2cc869e3a163d95e9157f87c1bc0f4a5728278cbbdab7", func := "loop.example/pinfold/laws.FnExactBackMulGap", spec := "fnExactBackMulGap", unfollowed := true, recurses := true, named := ["math/bits.deBruijn64tab"], apart := false, laid := [("math/bits.deBruijn64tab", laid_math_bits_deBruijn64tab)] }
def FnExactBackMulGapSaid : Prop := fnExactBackMulGapRow.holds Tryd.pinned (OpenSpec.ofChange fnExactBackMulGapSpec)

/-- ITS FALSE NEIGHBOUR: 'it returns false'. Refute it at one input. -/
def fnExactBackMulGapWrong : ChangeSpec := { name := "fnExactBackMulGap", fn := fun _ => fun
  | [d1, d2, d3, d4] => { results := [.lit (.bool false)], args := [d1, d2, d3, d4] }
  | _ => none }
def FnExactBackMulGapWrongFalsely : Prop := fnExactBackMulGapRow.holds Tryd.pinned (OpenSpec.ofChange fnExactBackMulGapWrong)

/-- 'laws.FnExactBackMul': WHATEVER THE INPUT: true; the input reads as it did. -/
def fnExactBackMulSpec : ChangeSpec := { name := "fnExactBackMul", fn := fun _ => fun
  | [d1, d2, d3, d4] => { results := [.lit (.bool true)], args := [d1, d2, d3, d4] }
  | _ => none }
def fnExactBackMulRow : OpenClaim := { program := "ytkbfckjhgdgdbaadoor", sum := "d7ead7c0b23c076768f2cc869e3a163d95e9157f87c1bc0f4a5728278cbbdab7", func := "loop.example/pinfold/laws.FnExactBackMul", spec := "fnExactBackMul", unfollowed := true, recurses := true, named := ["math/bits.deBruijn64tab"], apart := false, laid := [("math/bits.deBruijn64tab", laid_math_bits_deBruijn64tab)] }
def FnExactBackMulSaid : Prop := fnExactBackMulRow.holds Tryd.pinned (OpenSpec.ofChange fnExactBackMulSpec)

/-- ITS FALSE NEIGHBOUR: 'it returns false'. Refute it at one input. -/
def fnExactBackMulWrong : ChangeSpec := { name := "fnExactBackMul", fn := fun _ => fun
  | [d1, d2, d3, d4] => { results := [.lit (.bool false)], args := [d1, d2, d3, d4] }
  | _ => none }
def FnExactBackMulWrongFalsely : Prop := fnExactBackMulRow.holds Tryd.pinned (OpenSpec.ofChange fnExactBackMulWrong)

/-- 'laws.FnExactBackBottom': WHATEVER THE INPUT: true; the input reads as it did. -/
def fnExactBackBottomSpec : ChangeSpec := { name := "fnExactBackBottom", fn := fun _ => fun
  | [d1, d2, d3, d4] => { results := [.lit (.bool true)], args := [d1, d2, d3, d4] }
  | _ => none }
def fnExactBackBottomRow : OpenClaim := { program := "ytkbfckjhgdgdbaadoor", sum := "d7ead7c0b23c076768f2cc869e3a163d95e9157f87c1bc0f4a5728278cbbdab7", func := "loop.example/pinfold/laws.FnExactBackBottom", spec := "fnExactBackBottom", unfollowed := true, recurses := true, named := ["math/bits.deBruijn64tab"], apart := false, laid := [("math/bits.deBruijn64tab", laid_math_bits_deBruijn64tab)] }
def FnExactBackBottomSaid : Prop := fnExactBackBottomRow.holds Tryd.pinned (OpenSpec.ofChange fnExactBackBottomSpec)

/-- ITS FALSE NEIGHBOUR: 'it returns false'. Refute it at one input. -/
def fnExactBackBottomWrong : ChangeSpec := { name := "fnExactBackBottom", fn := fun _ => fun
  | [d1, d2, d3, d4] => { results := [.lit (.bool false)], args := [d1, d2, d3, d4] }
  | _ => none }
def FnExactBackBottomWrongFalsely : Prop := fnExactBackBottomRow.holds Tryd.pinned (OpenSpec.ofChange fnExactBackBottomWrong)

/-- 'laws.FnFloatRound': WHATEVER THE INPUT: true; the input reads as it did. -/
def fnFloatRoundSpec : ChangeSpec := { name := "fnFloatRound", fn := fun _ => fun
  | [d] => { results := [.lit (.bool true)], args := [d] }
  | _ => none }
def fnFloatRoundRow : OpenClaim := { program := "ytkbfckjhgdgdbaadoor", sum := "d7ead7c0b23c076768f2cc869e3a163d95e9157f87c1bc0f4a5728278cbbdab7", func := "loop.example/pinfold/laws.FnFloatRound", spec := "fnFloatRound", unfollowed := true, recurses := true, named := ["math/bits.deBruijn64tab"], apart := false, laid := [("math/bits.deBruijn64tab", laid_math_bits_deBruijn64tab)] }
def FnFloatRoundSaid : Prop := fnFloatRoundRow.holds Tryd.pinned (OpenSpec.ofChange fnFloatRoundSpec)

/-- ITS FALSE NEIGHBOUR: 'it returns false'. Refute it at one input. -/
def fnFloatRoundWrong : ChangeSpec := { name := "fnFloatRound", fn := fun _ => fun
  | [d] => { results := [.lit (.bool false)], args := [d] }
  | _ => none }
def FnFloatRoundWrongFalsely : Prop := fnFloatRoundRow.holds Tryd.pinned (OpenSpec.ofChange fnFloatRoundWrong)

/- THE SECOND FORM. 'bulk': how many values and letters a reading holds, each counted each time it is reached (what is shared counts as often as it is met; a slice's spare places count too). A statement '..UptoSaid' is the law's where the arguments, and the package variables that the reading takes, are together of bulk at most 1048576: NARROWER than '..Said'. Prove '..Said' where nothing that the law and all that it calls make is longer than what came in: it says more and counts as full. Else prove '..UptoSaid'. A law counts once. -/
mutual
def uptoBulk {H : Type} : DataW H → Nat
  | .lit (.string bytes) => bytes.length + 1
  | .lit _ => 1
  | .nil => 1
  | .ptr d => uptoBulk d + 1
  | .slice elems spare => uptoBulkAll elems + uptoBulkAll spare + 1
  | .agg parts => uptoBulkAll parts + 1
  | .iface _ d => uptoBulk d + 1
  | .map entries => uptoBulkEntries entries + 1
  | .held _ => 1
def uptoBulkAll {H : Type} : List (DataW H) → Nat
  | [] => 0
  | d :: r => uptoBulk d + uptoBulkAll r
def uptoBulkEntries {H : Type} : List (Lit × DataW H) → Nat
  | [] => 0
  | x :: r => uptoBulkEntry x + uptoBulkEntries r
def uptoBulkEntry {H : Type} : Lit × DataW H → Nat
  | (.string bytes, d) => bytes.length + uptoBulk d + 1
  | (_, d) => uptoBulk d + 1
 end
def uptoSmall : (H : Type) → List (DataW H) → Bool := fun _ ds => decide (uptoBulkAll ds ≤ 1048576)
def OpenSpec.upto (s : _root_.Go.ChangeSpec) : _root_.Go.OpenSpec := { _root_.Go.OpenSpec.ofChange s with cond := some uptoSmall }

/-- 'laws.FnExactSpanMul', WHERE WHAT IT READS IS OF BULK AT MOST 1048576: true; the input reads as it did. -/
def fnExactSpanMulUptoRow : OpenClaim := { program := "ytkbfckjhgdgdbaadoor", sum := "d7ead7c0b23c076768f2cc869e3a163d95e9157f87c1bc0f4a5728278cbbdab7", func := "loop.example/pinfold/laws.FnExactSpanMul", spec := "fnExactSpanMul", named := ["math/bits.deBruijn64tab"], apart := false, laid := [("math/bits.deBruijn64tab", laid_math_bits_deBruijn64tab)], narrowed := true }
def FnExactSpanMulUptoSaid : Prop := fnExactSpanMulUptoRow.holds Tryd.pinned (OpenSpec.upto fnExactSpanMulSpec)

/-- 'laws.FnExactSpanAdd', WHERE WHAT IT READS IS OF BULK AT MOST 1048576: true; the input reads as it did. -/
def fnExactSpanAddUptoRow : OpenClaim := { program := "ytkbfckjhgdgdbaadoor", sum := "d7ead7c0b23c076768f2cc869e3a163d95e9157f87c1bc0f4a5728278cbbdab7", func := "loop.example/pinfold/laws.FnExactSpanAdd", spec := "fnExactSpanAdd", unfollowed := true, recurses := true, named := ["math/bits.deBruijn64tab"], apart := false, laid := [("math/bits.deBruijn64tab", laid_math_bits_deBruijn64tab)], narrowed := true }
def FnExactSpanAddUptoSaid : Prop := fnExactSpanAddUptoRow.holds Tryd.pinned (OpenSpec.upto fnExactSpanAddSpec)

/-- 'laws.FnExactSpanSub', WHERE WHAT IT READS IS OF BULK AT MOST 1048576: true; the input reads as it did. -/
def fnExactSpanSubUptoRow : OpenClaim := { program := "ytkbfckjhgdgdbaadoor", sum := "d7ead7c0b23c076768f2cc869e3a163d95e9157f87c1bc0f4a5728278cbbdab7", func := "loop.example/pinfold/laws.FnExactSpanSub", spec := "fnExactSpanSub", unfollowed := true, recurses := true, named := ["math/bits.deBruijn64tab"], apart := false, laid := [("math/bits.deBruijn64tab", laid_math_bits_deBruijn64tab)], narrowed := true }
def FnExactSpanSubUptoSaid : Prop := fnExactSpanSubUptoRow.holds Tryd.pinned (OpenSpec.upto fnExactSpanSubSpec)

/-- 'laws.FnExactBackTop', WHERE WHAT IT READS IS OF BULK AT MOST 1048576: true; the input reads as it did. -/
def fnExactBackTopUptoRow : OpenClaim := { program := "ytkbfckjhgdgdbaadoor", sum := "d7ead7c0b23c076768f2cc869e3a163d95e9157f87c1bc0f4a5728278cbbdab7", func := "loop.example/pinfold/laws.FnExactBackTop", spec := "fnExactBackTop", named := ["math/bits.deBruijn64tab"], apart := false, laid := [("math/bits.deBruijn64tab", laid_math_bits_deBruijn64tab)], narrowed := true }
def FnExactBackTopUptoSaid : Prop := fnExactBackTopUptoRow.holds Tryd.pinned (OpenSpec.upto fnExactBackTopSpec)

/-- 'laws.FnFloatFrac', WHERE WHAT IT READS IS OF BULK AT MOST 1048576: true; the input reads as it did. -/
def fnFloatFracUptoRow : OpenClaim := { program := "ytkbfckjhgdgdbaadoor", sum := "d7ead7c0b23c076768f2cc869e3a163d95e9157f87c1bc0f4a5728278cbbdab7", func := "loop.example/pinfold/laws.FnFloatFrac", spec := "fnFloatFrac", unfollowed := true, recurses := true, named := ["math/bits.deBruijn64tab"], apart := false, laid := [("math/bits.deBruijn64tab", laid_math_bits_deBruijn64tab)], narrowed := true }
def FnFloatFracUptoSaid : Prop := fnFloatFracUptoRow.holds Tryd.pinned (OpenSpec.upto fnFloatFracSpec)

/-- 'laws.FnExactFloatNear', WHERE WHAT IT READS IS OF BULK AT MOST 1048576: true; the input reads as it did. -/
def fnExactFloatNearUptoRow : OpenClaim := { program := "ytkbfckjhgdgdbaadoor", sum := "d7ead7c0b23c076768f2cc869e3a163d95e9157f87c1bc0f4a5728278cbbdab7", func := "loop.example/pinfold/laws.FnExactFloatNear", spec := "fnExactFloatNear", unfollowed := true, recurses := true, named := ["math/bits.deBruijn64tab"], apart := false, laid := [("math/bits.deBruijn64tab", laid_math_bits_deBruijn64tab)], narrowed := true }
def FnExactFloatNearUptoSaid : Prop := fnExactFloatNearUptoRow.holds Tryd.pinned (OpenSpec.upto fnExactFloatNearSpec)

/-- 'laws.FnExactSpanDivTwo', WHERE WHAT IT READS IS OF BULK AT MOST 1048576: true; the input reads as it did. -/
def fnExactSpanDivTwoUptoRow : OpenClaim := { program := "ytkbfckjhgdgdbaadoor", sum := "d7ead7c0b23c076768f2cc869e3a163d95e9157f87c1bc0f4a5728278cbbdab7", func := "loop.example/pinfold/laws.FnExactSpanDivTwo", spec := "fnExactSpanDivTwo", unfollowed := true, recurses := true, named := ["math/bits.deBruijn64tab"], apart := false, laid := [("math/bits.deBruijn64tab", laid_math_bits_deBruijn64tab)], narrowed := true }
def FnExactSpanDivTwoUptoSaid : Prop := fnExactSpanDivTwoUptoRow.holds Tryd.pinned (OpenSpec.upto fnExactSpanDivTwoSpec)

/-- 'laws.FnExactSpanDiv', WHERE WHAT IT READS IS OF BULK AT MOST 1048576: true; the input reads as it did. -/
def fnExactSpanDivUptoRow : OpenClaim := { program := "ytkbfckjhgdgdbaadoor", sum := "d7ead7c0b23c076768f2cc869e3a163d95e9157f87c1bc0f4a5728278cbbdab7", func := "loop.example/pinfold/laws.FnExactSpanDiv", spec := "fnExactSpanDiv", unfollowed := true, recurses := true, named := ["math/bits.deBruijn64tab"], apart := false, laid := [("math/bits.deBruijn64tab", laid_math_bits_deBruijn64tab)], narrowed := true }
def FnExactSpanDivUptoSaid : Prop := fnExactSpanDivUptoRow.holds Tryd.pinned (OpenSpec.upto fnExactSpanDivSpec)

/-- 'laws.FnExactBackMulGap', WHERE WHAT IT READS IS OF BULK AT MOST 1048576: true; the input reads as it did. -/
def fnExactBackMulGapUptoRow : OpenClaim := { program := "ytkbfckjhgdgdbaadoor", sum := "d7ead7c0b23c076768f2cc869e3a163d95e9157f87c1bc0f4a5728278cbbdab7", func := "loop.example/pinfold/laws.FnExactBackMulGap", spec := "fnExactBackMulGap", unfollowed := true, recurses := true, named := ["math/bits.deBruijn64tab"], apart := false, laid := [("math/bits.deBruijn64tab", laid_math_bits_deBruijn64tab)], narrowed := true }
def FnExactBackMulGapUptoSaid : Prop := fnExactBackMulGapUptoRow.holds Tryd.pinned (OpenSpec.upto fnExactBackMulGapSpec)

/-- 'laws.FnExactBackMul', WHERE WHAT IT READS IS OF BULK AT MOST 1048576: true; the input reads as it did. -/
def fnExactBackMulUptoRow : OpenClaim := { program := "ytkbfckjhgdgdbaadoor", sum := "d7ead7c0b23c076768f2cc869e3a163d95e9157f87c1bc0f4a5728278cbbdab7", func := "loop.example/pinfold/laws.FnExactBackMul", spec := "fnExactBackMul", unfollowed := true, recurses := true, named := ["math/bits.deBruijn64tab"], apart := false, laid := [("math/bits.deBruijn64tab", laid_math_bits_deBruijn64tab)], narrowed := true }
def FnExactBackMulUptoSaid : Prop := fnExactBackMulUptoRow.holds Tryd.pinned (OpenSpec.upto fnExactBackMulSpec)

/-- 'laws.FnExactBackBottom', WHERE WHAT IT READS IS OF BULK AT MOST 1048576: true; the input reads as it did. -/
def fnExactBackBottomUptoRow : OpenClaim := { program := "ytkbfckjhgdgdbaadoor", sum := "d7ead7c0b23c076768f2cc869e3a163d95e9157f87c1bc0f4a5728278cbbdab7", func := "loop.example/pinfold/laws.FnExactBackBottom", spec := "fnExactBackBottom", unfollowed := true, recurses := true, named := ["math/bits.deBruijn64tab"], apart := false, laid := [("math/bits.deBruijn64tab", laid_math_bits_deBruijn64tab)], narrowed := true }
def FnExactBackBottomUptoSaid : Prop := fnExactBackBottomUptoRow.holds Tryd.pinned (OpenSpec.upto fnExactBackBottomSpec)

/-- 'laws.FnFloatRound', WHERE WHAT IT READS IS OF BULK AT MOST 1048576: true; the input reads as it did. -/
def fnFloatRoundUptoRow : OpenClaim := { program := "ytkbfckjhgdgdbaadoor", sum := "d7ead7c0b23c076768f2cc869e3a163d95e9157f87c1bc0f4a5728278cbbdab7", func := "loop.example/pinfold/laws.FnFloatRound", spec := "fnFloatRound", unfollowed := true, recurses := true, named := ["math/bits.deBruijn64tab"], apart := false, laid := [("math/bits.deBruijn64tab", laid_math_bits_deBruijn64tab)], narrowed := true }
def FnFloatRoundUptoSaid : Prop := fnFloatRoundUptoRow.holds Tryd.pinned (OpenSpec.upto fnFloatRoundSpec)

end Rows
end Go.Proofs.YtkbfckjhgdgdbaaDoor
