/-
  No cell of these rows narrows 'for every input' (looked for: loops, veiled, ifaces, maps, wideKeys, modest, calm, conditions, laid).
  DERIVED. THE GIVEN ROWS OF THIS SEAT. 3 by the template 'for every input the law returns true; each argument reads behind the call as it read before'; 0 by the template 'total and deterministic' (their statements: YtbginchbgejilaaTotals.lean).
  GIVEN WITH THE SEED: the statements are not yours to turn. If you find one false, say at which input.
  Laid BY PROGRAM, IN A SANDBOX (cutbox-rows.mjs): the forced cells as the released guide's own fill.sh prints them over the translation 6a3c7f5975ba0bf0… (all of the seat's roots in one cut). By AI agents, Wed Nov 11 2026. No macro, syntax, notation, axiom, sorry.
-/
import Derived.Test.YtbginchbgejilaaChecked
import GoSem.Claim
import GoSem.ClaimJoined
import GoSem.ClaimMapViews
import Derived.JoinedTies
import Derived.KernelRfl
namespace Go.Proofs.Ytbginchbgejilaa
/- THE CELL 'sum', in the pinned program and in every row, IS THE sha256 OF THE DUMP (.gsa) THAT YtbginchbgejilaaProg.lean LOADS. Nothing in Lean hashes anything: it is a label: what it is worth is what the hold of that sum in a sandbox is worth. -/
noncomputable def Try.pinned : Pinned := { name := "ytbginchbgejilaa", sum := "6a3c7f5975ba0bf00a818ccb31eb490cf2e056b606022c64cb3277a47e33abaf", checked := Try.checked }
namespace Rows
def none {H : Type} : Left H := { results := [], args := [] }

/-- 'laws.FnFracOrder': WHATEVER THE INPUT: true; the input reads as it did. -/
def fnFracOrderSpec : ChangeSpec := { name := "fnFracOrder", fn := fun _ => fun
  | [d1, d2] => { results := [.lit (.bool true)], args := [d1, d2] }
  | _ => none }
def fnFracOrderRow : OpenClaim := { program := "ytbginchbgejilaa", sum := "6a3c7f5975ba0bf00a818ccb31eb490cf2e056b606022c64cb3277a47e33abaf", func := "loop.example/pinfold/laws.FnFracOrder", spec := "fnFracOrder", unfollowed := true, recurses := true, apart := false }
def FnFracOrderSaid : Prop := fnFracOrderRow.holds Try.pinned (OpenSpec.ofChange fnFracOrderSpec)

/-- ITS FALSE NEIGHBOUR: 'it returns false'. Refute it at one input. -/
def fnFracOrderWrong : ChangeSpec := { name := "fnFracOrder", fn := fun _ => fun
  | [d1, d2] => { results := [.lit (.bool false)], args := [d1, d2] }
  | _ => none }
def FnFracOrderWrongFalsely : Prop := fnFracOrderRow.holds Try.pinned (OpenSpec.ofChange fnFracOrderWrong)

/-- 'laws.FnNumTop': WHATEVER THE INPUT: true; the input reads as it did. -/
def fnNumTopSpec : ChangeSpec := { name := "fnNumTop", fn := fun _ => fun
  | [d1, d2] => { results := [.lit (.bool true)], args := [d1, d2] }
  | _ => none }
def fnNumTopRow : OpenClaim := { program := "ytbginchbgejilaa", sum := "6a3c7f5975ba0bf00a818ccb31eb490cf2e056b606022c64cb3277a47e33abaf", func := "loop.example/pinfold/laws.FnNumTop", spec := "fnNumTop", unfollowed := true, recurses := true, apart := false }
def FnNumTopSaid : Prop := fnNumTopRow.holds Try.pinned (OpenSpec.ofChange fnNumTopSpec)

/-- ITS FALSE NEIGHBOUR: 'it returns false'. Refute it at one input. -/
def fnNumTopWrong : ChangeSpec := { name := "fnNumTop", fn := fun _ => fun
  | [d1, d2] => { results := [.lit (.bool false)], args := [d1, d2] }
  | _ => none }
def FnNumTopWrongFalsely : Prop := fnNumTopRow.holds Try.pinned (OpenSpec.ofChange fnNumTopWrong)

/-- 'laws.FnFracRoot': WHATEVER THE INPUT: true; the input reads as it did. -/
def fnFracRootSpec : ChangeSpec := { name := "fnFracRoot", fn := fun _ => fun
  | [d] => { results := [.lit (.bool true)], args := [d] }
  | _ => none }
def fnFracRootRow : OpenClaim := { program := "ytbginchbgejilaa", sum := "6a3c7f5975ba0bf00a818ccb31eb490cf2e056b606022c64cb3277a47e33abaf", func := "loop.example/pinfold/laws.FnFracRoot", spec := "fnFracRoot", unfollowed := true, recurses := true, apart := false }
def FnFracRootSaid : Prop := fnFracRootRow.holds Try.pinned (OpenSpec.ofChange fnFracRootSpec)

/-- ITS FALSE NEIGHBOUR: 'it returns false'. Refute it at one input. -/
def fnFracRootWrong : ChangeSpec := { name := "fnFracRoot", fn := fun _ => fun
  | [d] => { results := [.lit (.bool false)], args := [d] }
  | _ => none }
def FnFracRootWrongFalsely : Prop := fnFracRootRow.holds Try.pinned (OpenSpec.ofChange fnFracRootWrong)

/- THE SECOND FORM. 'bulk': how many values and letters a reading holds, each counted each time it is reached (what is shared counts as often as it is met; a slice's spare places count too). A statement '..UptoSaid' is the law's where the arguments, and the package variables that the reading takes, are together of bulk at most 1048576: NARROWER than '..Said'. Prove '..Said' where nothing that the law and all that it calls make is longer than what came in: it says more and counts as full. Else prove '..UptoSaid'. A law counts once. -/
mutual
def uptoBulk {H : Type} : DataW H → Nat
  | .lit (.string bytes) => bytes.length + 1
  | .lit _ => 1
  | .nil => 1
  | .ptr d => uptoBulk d + 1
  | .slice elems spare => uptoBulkAll elems + uptoBulkAll spare + 1
  | .agg parts => uptoBulkAll parts + 1
  | .iface _ d => uptoBulk d + 1
  | .map entries => uptoBulkEntries entries + 1
  | .held _ => 1
def uptoBulkAll {H : Type} : List (DataW H) → Nat
  | [] => 0
  | d :: r => uptoBulk d + uptoBulkAll r
def uptoBulkEntries {H : Type} : List (Lit × DataW H) → Nat
  | [] => 0
  | x :: r => uptoBulkEntry x + uptoBulkEntries r
def uptoBulkEntry {H : Type} : Lit × DataW H → Nat
  | (.string bytes, d) => bytes.length + uptoBulk d + 1
  | (_, d) => uptoBulk d + 1
 end
def uptoSmall : (H : Type) → List (DataW H) → Bool := fun _ ds => decide (uptoBulkAll ds ≤ 1048576)
def OpenSpec.upto (s : _root_.Go.ChangeSpec) : _root_.Go.OpenSpec := { _root_.Go.OpenSpec.ofChange s with cond := some uptoSmall }

/-- 'laws.FnFracOrder', WHERE WHAT IT READS IS OF BULK AT MOST 1048576: true; the input reads as it did. -/
def fnFracOrderUptoRow : OpenClaim := { program := "ytbginchbgejilaa", sum := "6a3c7f5975ba0bf00a818ccb31eb490cf2e056b606022c64cb3277a47e33abaf", func := "loop.example/pinfold/laws.FnFracOrder", spec := "fnFracOrder", unfollowed := true, recurses := true, apart := false, narrowed := true }
def FnFracOrderUptoSaid : Prop := fnFracOrderUptoRow.holds Try.pinned (OpenSpec.upto fnFracOrderSpec)

/-- 'laws.FnNumTop', WHERE WHAT IT READS IS OF BULK AT MOST 1048576: true; the input reads as it did. -/
def fnNumTopUptoRow : OpenClaim := { program := "ytbginchbgejilaa", sum := "6a3c7f5975ba0bf00a818ccb31eb490cf2e056b606022c64cb3277a47e33abaf", func := "loop.example/pinfold/laws.FnNumTop", spec := "fnNumTop", unfollowed := true, recurses := true, apart := false, narrowed := true }
def FnNumTopUptoSaid : Prop := fnNumTopUptoRow.holds Try.pinned (OpenSpec.upto fnNumTopSpec)

/-- 'laws.FnFracRoot', WHERE WHAT IT READS IS OF BULK AT MOST 1048576: true; the input reads as it did. -/
def fnFracRootUptoRow : OpenClaim := { program := "ytbginchbgejilaa", sum := "6a3c7f5975ba0bf00a818ccb31eb490cf2e056b606022c64cb3277a47e33abaf", func := "loop.example/pinfold/laws.FnFracRoot", spec := "fnFracRoot", unfollowed := true, recurses := true, apart := false, narrowed := true }
def FnFracRootUptoSaid : Prop := fnFracRootUptoRow.holds Try.pinned (OpenSpec.upto fnFracRootSpec)

end Rows
end Go.Proofs.Ytbginchbgejilaa
