/-
  NARROWER THAN 'FOR EVERY INPUT', by the rows' own cells (each row's printed sentence says how): RegexOrders: loops · RegexRights: loops · RegexOwn: loops.
  DERIVED. THE GIVEN ROWS OF THIS SEAT. 3 by the template 'for every input the law returns true; each argument reads behind the call as it read before'; 0 by the template 'total and deterministic' (their statements: YtaccleilcdfapaaGreatTotals.lean).
  GIVEN WITH THE SEED: the statements are not yours to turn. If you find one false, say at which input.
  Laid BY PROGRAM, IN A SANDBOX (cutbox-rows.mjs): the forced cells as the released guide's own fill.sh prints them over the translation fc41e0faa362e8c0… (all of the seat's roots in one cut). By AI agents, Wed Nov 11 2026. No macro, syntax, notation, axiom, sorry.
-/
import Derived.Test.YtaccleilcdfapaaGreatChecked
import GoSem.Claim
import GoSem.ClaimJoined
import GoSem.ClaimMapViews
import Derived.JoinedTies
import Derived.KernelRfl
namespace Go.Proofs.YtaccleilcdfapaaGreat
/- THE CELL 'sum', in the pinned program and in every row, IS THE sha256 OF THE DUMP (.gsa) THAT YtaccleilcdfapaaGreatProg.lean LOADS. Nothing in Lean hashes anything: it is a label: what it is worth is what the hold of that sum in a sandbox is worth. -/
noncomputable def Tryz.pinned : Pinned := { name := "ytaccleilcdfapaagreat", sum := "fc41e0faa362e8c0d48c63b5e28873efd4073bc31771450b10cb3db14c8f3af2", checked := Tryz.checked }
namespace Rows
def none {H : Type} : Left H := { results := [], args := [] }

/-- 'quoinlaw04.RegexOrders': WHATEVER THE INPUT: true; the input reads as it did. -/
def regexOrdersSpec : ChangeSpec := { name := "regexOrders", fn := fun _ => fun
  | [d1, d2] => { results := [.lit (.bool true)], args := [d1, d2] }
  | _ => none }
def regexOrdersRow : OpenClaim := { program := "ytaccleilcdfapaagreat", sum := "fc41e0faa362e8c0d48c63b5e28873efd4073bc31771450b10cb3db14c8f3af2", func := "quoin/quoinlaw04.RegexOrders", spec := "regexOrders", inPlace := ["internal/bytealg.IndexByteString", "internal/bytealg.IndexString", "internal/abi.NoEscape"], unfollowed := true, recurses := true, named := ["internal/bytealg.MaxLen"], loops := true, plainKeys := false, apart := false }
def RegexOrdersSaid : Prop := regexOrdersRow.holds Tryz.pinned (OpenSpec.ofChange regexOrdersSpec)

/-- ITS FALSE NEIGHBOUR: 'it returns false'. Refute it at one input. -/
def regexOrdersWrong : ChangeSpec := { name := "regexOrders", fn := fun _ => fun
  | [d1, d2] => { results := [.lit (.bool false)], args := [d1, d2] }
  | _ => none }
def RegexOrdersWrongFalsely : Prop := regexOrdersRow.holds Tryz.pinned (OpenSpec.ofChange regexOrdersWrong)

/-- 'quoinlaw04.RegexRights': WHATEVER THE INPUT: true; the input reads as it did. -/
def regexRightsSpec : ChangeSpec := { name := "regexRights", fn := fun _ => fun
  | [d] => { results := [.lit (.bool true)], args := [d] }
  | _ => none }
def regexRightsRow : OpenClaim := { program := "ytaccleilcdfapaagreat", sum := "fc41e0faa362e8c0d48c63b5e28873efd4073bc31771450b10cb3db14c8f3af2", func := "quoin/quoinlaw04.RegexRights", spec := "regexRights", inPlace := ["internal/bytealg.IndexByteString", "internal/bytealg.IndexString", "internal/abi.NoEscape"], unfollowed := true, recurses := true, named := ["internal/bytealg.MaxLen"], loops := true, plainKeys := false, apart := false }
def RegexRightsSaid : Prop := regexRightsRow.holds Tryz.pinned (OpenSpec.ofChange regexRightsSpec)

/-- ITS FALSE NEIGHBOUR: 'it returns false'. Refute it at one input. -/
def regexRightsWrong : ChangeSpec := { name := "regexRights", fn := fun _ => fun
  | [d] => { results := [.lit (.bool false)], args := [d] }
  | _ => none }
def RegexRightsWrongFalsely : Prop := regexRightsRow.holds Tryz.pinned (OpenSpec.ofChange regexRightsWrong)

/-- 'quoinlaw04.RegexOwn': WHATEVER THE INPUT: true; the input reads as it did. -/
def regexOwnSpec : ChangeSpec := { name := "regexOwn", fn := fun _ => fun
  | [d1, d2] => { results := [.lit (.bool true)], args := [d1, d2] }
  | _ => none }
def regexOwnRow : OpenClaim := { program := "ytaccleilcdfapaagreat", sum := "fc41e0faa362e8c0d48c63b5e28873efd4073bc31771450b10cb3db14c8f3af2", func := "quoin/quoinlaw04.RegexOwn", spec := "regexOwn", inPlace := ["internal/bytealg.IndexByteString", "internal/bytealg.IndexString", "internal/abi.NoEscape"], unfollowed := true, recurses := true, named := ["internal/bytealg.MaxLen"], loops := true, plainKeys := false, apart := false }
def RegexOwnSaid : Prop := regexOwnRow.holds Tryz.pinned (OpenSpec.ofChange regexOwnSpec)

/-- ITS FALSE NEIGHBOUR: 'it returns false'. Refute it at one input. -/
def regexOwnWrong : ChangeSpec := { name := "regexOwn", fn := fun _ => fun
  | [d1, d2] => { results := [.lit (.bool false)], args := [d1, d2] }
  | _ => none }
def RegexOwnWrongFalsely : Prop := regexOwnRow.holds Tryz.pinned (OpenSpec.ofChange regexOwnWrong)

/- THE SECOND FORM. 'bulk': how many values and letters a reading holds, each counted each time it is reached (what is shared counts as often as it is met; a slice's spare places count too). A statement '..UptoSaid' is the law's where the arguments, and the package variables that the reading takes, are together of bulk at most 1048576: NARROWER than '..Said'. Prove '..Said' where nothing that the law and all that it calls make is longer than what came in: it says more and counts as full. Else prove '..UptoSaid'. A law counts once. -/
mutual
def uptoBulk {H : Type} : DataW H → Nat
  | .lit (.string bytes) => bytes.length + 1
  | .lit _ => 1
  | .nil => 1
  | .ptr d => uptoBulk d + 1
  | .slice elems spare => uptoBulkAll elems + uptoBulkAll spare + 1
  | .agg parts => uptoBulkAll parts + 1
  | .iface _ d => uptoBulk d + 1
  | .map entries => uptoBulkEntries entries + 1
  | .held _ => 1
def uptoBulkAll {H : Type} : List (DataW H) → Nat
  | [] => 0
  | d :: r => uptoBulk d + uptoBulkAll r
def uptoBulkEntries {H : Type} : List (Lit × DataW H) → Nat
  | [] => 0
  | x :: r => uptoBulkEntry x + uptoBulkEntries r
def uptoBulkEntry {H : Type} : Lit × DataW H → Nat
  | (.string bytes, d) => bytes.length + uptoBulk d + 1
  | (_, d) => uptoBulk d + 1
 end
def uptoSmall : (H : Type) → List (DataW H) → Bool := fun _ ds => decide (uptoBulkAll ds ≤ 1048576)
def OpenSpec.upto (s : _root_.Go.ChangeSpec) : _root_.Go.OpenSpec := { _root_.Go.OpenSpec.ofChange s with cond := some uptoSmall }

/-- 'quoinlaw04.RegexOrders', WHERE WHAT IT READS IS OF BULK AT MOST 1048576: true; the input reads as it did. -/
def regexOrdersUptoRow : OpenClaim := { program := "ytaccleilcdfapaagreat", sum := "fc41e0faa362e8c0d48c63b5e28873efd4073bc31771450b10cb3db14c8f3af2", func := "quoin/quoinlaw04.RegexOrders", spec := "regexOrders", inPlace := ["internal/bytealg.IndexByteString", "internal/bytealg.IndexString", "internal/abi.NoEscape"], unfollowed := true, recurses := true, named := ["internal/bytealg.MaxLen"], loops := true, plainKeys := false, apart := false, narrowed := true }
def RegexOrdersUptoSaid : Prop := regexOrdersUptoRow.holds Tryz.pinned (OpenSpec.upto regexOrdersSpec)

/-- 'quoinlaw04.RegexRights', WHERE WHAT IT READS IS OF BULK AT MOST 1048576: true; the input reads as it did. -/
def regexRightsUptoRow : OpenClaim := { program := "ytaccleilcdfapaagreat", sum := "fc41e0faa362e8c0d48c63b5e28873efd4073bc31771450b10cb3db14c8f3af2", func := "quoin/quoinlaw04.RegexRights", spec := "regexRights", inPlace := ["internal/bytealg.IndexByteString", "internal/bytealg.IndexString", "internal/abi.NoEscape"], unfollowed := true, recurses := true, named := ["internal/bytealg.MaxLen"], loops := true, plainKeys := false, apart := false, narrowed := true }
def RegexRightsUptoSaid : Prop := regexRightsUptoRow.holds Tryz.pinned (OpenSpec.upto regexRightsSpec)

/-- 'quoinlaw04.RegexOwn', WHERE WHAT IT READS IS OF BULK AT MOST 1048576: true; the input reads as it did. -/
def regexOwnUptoRow : OpenClaim := { program := "ytaccleilcdfapaagreat", sum := "fc41e0faa362e8c0d48c63b5e28873efd4073bc31771450b10cb3db14c8f3af2", func := "quoin/quoinlaw04.RegexOwn", spec := "regexOwn", inPlace := ["internal/bytealg.IndexByteString", "internal/bytealg.IndexString", "internal/abi.NoEscape"], unfollowed := true, recurses := true, named := ["internal/bytealg.MaxLen"], loops := true, plainKeys := false, apart := false, narrowed := true }
def RegexOwnUptoSaid : Prop := regexOwnUptoRow.holds Tryz.pinned (OpenSpec.upto regexOwnSpec)

end Rows
end Go.Proofs.YtaccleilcdfapaaGreat
