/-
  No cell of these rows narrows 'for every input' (looked for: loops, veiled, ifaces, maps, wideKeys, modest, calm, conditions, laid).
  DERIVED. THE GIVEN ROWS OF THIS SEAT. 6 by the template 'for every input the law returns true; each argument reads behind the call as it read before'; 0 by the template 'total and deterministic' (their statements: YtcajiapjdlphmaaTotals.lean).
  GIVEN WITH THE SEED: the statements are not yours to turn. If you find one false, say at which input.
  Laid BY PROGRAM, IN A SANDBOX (cutbox-rows.mjs): the forced cells as the released guide's own fill.sh prints them over the translation db9c7fa18891c04a… (all of the seat's roots in one cut). By AI agents, Wed Nov 11 2026. No macro, syntax, notation, axiom, sorry.
-/
import Derived.Test.YtcajiapjdlphmaaChecked
import GoSem.Claim
import GoSem.ClaimJoined
import GoSem.ClaimMapViews
import Derived.JoinedTies
import Derived.KernelRfl
namespace Go.Proofs.Ytcajiapjdlphmaa
/- THE CELL 'sum', in the pinned program and in every row, IS THE sha256 OF THE DUMP (.gsa) THAT YtcajiapjdlphmaaProg.lean LOADS. Nothing in Lean hashes anything: it is a label: what it is worth is what the hold of that sum in a sandbox is worth. -/
noncomputable def Try.pinned : Pinned := { name := "ytcajiapjdlphmaa", sum := "db9c7fa18891c04a7291ffa66ee3c9292bef02504ddef2160b9deec362523604", checked := Try.checked }
namespace Rows
def none {H : Type} : Left H := { results := [], args := [] }

/-- 'quoinlaw26.GoscanRaw': WHATEVER THE INPUT: true; the input reads as it did. -/
def goscanRawSpec : ChangeSpec := { name := "goscanRaw", fn := fun _ => fun
  | [d] => { results := [.lit (.bool true)], args := [d] }
  | _ => none }
def goscanRawRow : OpenClaim := { program := "ytcajiapjdlphmaa", sum := "db9c7fa18891c04a7291ffa66ee3c9292bef02504ddef2160b9deec362523604", func := "quoin/quoinlaw26.GoscanRaw", spec := "goscanRaw", inPlace := ["internal/bytealg.IndexByteString", "internal/bytealg.IndexString"], unfollowed := true, recurses := true, named := ["internal/bytealg.MaxLen"], apart := false }
def GoscanRawSaid : Prop := goscanRawRow.holds Try.pinned (OpenSpec.ofChange goscanRawSpec)

/-- ITS FALSE NEIGHBOUR: 'it returns false'. Refute it at one input. -/
def goscanRawWrong : ChangeSpec := { name := "goscanRaw", fn := fun _ => fun
  | [d] => { results := [.lit (.bool false)], args := [d] }
  | _ => none }
def GoscanRawWrongFalsely : Prop := goscanRawRow.holds Try.pinned (OpenSpec.ofChange goscanRawWrong)

/-- 'quoinlaw26.GoscanInserts': WHATEVER THE INPUT: true; the input reads as it did. -/
def goscanInsertsSpec : ChangeSpec := { name := "goscanInserts", fn := fun _ => fun
  | [d1, d2] => { results := [.lit (.bool true)], args := [d1, d2] }
  | _ => none }
def goscanInsertsRow : OpenClaim := { program := "ytcajiapjdlphmaa", sum := "db9c7fa18891c04a7291ffa66ee3c9292bef02504ddef2160b9deec362523604", func := "quoin/quoinlaw26.GoscanInserts", spec := "goscanInserts", inPlace := ["internal/bytealg.IndexByteString", "internal/bytealg.IndexString"], unfollowed := true, recurses := true, named := ["internal/bytealg.MaxLen"], apart := false }
def GoscanInsertsSaid : Prop := goscanInsertsRow.holds Try.pinned (OpenSpec.ofChange goscanInsertsSpec)

/-- ITS FALSE NEIGHBOUR: 'it returns false'. Refute it at one input. -/
def goscanInsertsWrong : ChangeSpec := { name := "goscanInserts", fn := fun _ => fun
  | [d1, d2] => { results := [.lit (.bool false)], args := [d1, d2] }
  | _ => none }
def GoscanInsertsWrongFalsely : Prop := goscanInsertsRow.holds Try.pinned (OpenSpec.ofChange goscanInsertsWrong)

/-- 'quoinlaw26.GoscanAlls': WHATEVER THE INPUT: true; the input reads as it did. -/
def goscanAllsSpec : ChangeSpec := { name := "goscanAlls", fn := fun _ => fun
  | [d] => { results := [.lit (.bool true)], args := [d] }
  | _ => none }
def goscanAllsRow : OpenClaim := { program := "ytcajiapjdlphmaa", sum := "db9c7fa18891c04a7291ffa66ee3c9292bef02504ddef2160b9deec362523604", func := "quoin/quoinlaw26.GoscanAlls", spec := "goscanAlls", inPlace := ["internal/bytealg.IndexByteString", "internal/bytealg.IndexString"], unfollowed := true, recurses := true, named := ["internal/bytealg.MaxLen"], apart := false }
def GoscanAllsSaid : Prop := goscanAllsRow.holds Try.pinned (OpenSpec.ofChange goscanAllsSpec)

/-- ITS FALSE NEIGHBOUR: 'it returns false'. Refute it at one input. -/
def goscanAllsWrong : ChangeSpec := { name := "goscanAlls", fn := fun _ => fun
  | [d] => { results := [.lit (.bool false)], args := [d] }
  | _ => none }
def GoscanAllsWrongFalsely : Prop := goscanAllsRow.holds Try.pinned (OpenSpec.ofChange goscanAllsWrong)

/-- 'quoinlaw26.GoscanLines': WHATEVER THE INPUT: true; the input reads as it did. -/
def goscanLinesSpec : ChangeSpec := { name := "goscanLines", fn := fun _ => fun
  | [d] => { results := [.lit (.bool true)], args := [d] }
  | _ => none }
def goscanLinesRow : OpenClaim := { program := "ytcajiapjdlphmaa", sum := "db9c7fa18891c04a7291ffa66ee3c9292bef02504ddef2160b9deec362523604", func := "quoin/quoinlaw26.GoscanLines", spec := "goscanLines", inPlace := ["internal/bytealg.IndexByteString", "internal/bytealg.IndexString"], unfollowed := true, recurses := true, named := ["internal/bytealg.MaxLen"], apart := false }
def GoscanLinesSaid : Prop := goscanLinesRow.holds Try.pinned (OpenSpec.ofChange goscanLinesSpec)

/-- ITS FALSE NEIGHBOUR: 'it returns false'. Refute it at one input. -/
def goscanLinesWrong : ChangeSpec := { name := "goscanLines", fn := fun _ => fun
  | [d] => { results := [.lit (.bool false)], args := [d] }
  | _ => none }
def GoscanLinesWrongFalsely : Prop := goscanLinesRow.holds Try.pinned (OpenSpec.ofChange goscanLinesWrong)

/-- 'quoinlaw26.GoscanBare': WHATEVER THE INPUT: true; the input reads as it did. -/
def goscanBareSpec : ChangeSpec := { name := "goscanBare", fn := fun _ => fun
  | [d] => { results := [.lit (.bool true)], args := [d] }
  | _ => none }
def goscanBareRow : OpenClaim := { program := "ytcajiapjdlphmaa", sum := "db9c7fa18891c04a7291ffa66ee3c9292bef02504ddef2160b9deec362523604", func := "quoin/quoinlaw26.GoscanBare", spec := "goscanBare", inPlace := ["internal/bytealg.IndexByteString", "internal/bytealg.IndexString"], unfollowed := true, recurses := true, named := ["internal/bytealg.MaxLen"], apart := false }
def GoscanBareSaid : Prop := goscanBareRow.holds Try.pinned (OpenSpec.ofChange goscanBareSpec)

/-- ITS FALSE NEIGHBOUR: 'it returns false'. Refute it at one input. -/
def goscanBareWrong : ChangeSpec := { name := "goscanBare", fn := fun _ => fun
  | [d] => { results := [.lit (.bool false)], args := [d] }
  | _ => none }
def GoscanBareWrongFalsely : Prop := goscanBareRow.holds Try.pinned (OpenSpec.ofChange goscanBareWrong)

/-- 'quoinlaw26.GoscanKinds': WHATEVER THE INPUT: true; the input reads as it did. -/
def goscanKindsSpec : ChangeSpec := { name := "goscanKinds", fn := fun _ => fun
  | [d1, d2, d3] => { results := [.lit (.bool true)], args := [d1, d2, d3] }
  | _ => none }
def goscanKindsRow : OpenClaim := { program := "ytcajiapjdlphmaa", sum := "db9c7fa18891c04a7291ffa66ee3c9292bef02504ddef2160b9deec362523604", func := "quoin/quoinlaw26.GoscanKinds", spec := "goscanKinds", inPlace := ["internal/bytealg.IndexByteString", "internal/bytealg.IndexString"], unfollowed := true, recurses := true, named := ["internal/bytealg.MaxLen"], apart := false }
def GoscanKindsSaid : Prop := goscanKindsRow.holds Try.pinned (OpenSpec.ofChange goscanKindsSpec)

/-- ITS FALSE NEIGHBOUR: 'it returns false'. Refute it at one input. -/
def goscanKindsWrong : ChangeSpec := { name := "goscanKinds", fn := fun _ => fun
  | [d1, d2, d3] => { results := [.lit (.bool false)], args := [d1, d2, d3] }
  | _ => none }
def GoscanKindsWrongFalsely : Prop := goscanKindsRow.holds Try.pinned (OpenSpec.ofChange goscanKindsWrong)

/- THE SECOND FORM. 'bulk': how many values and letters a reading holds, each counted each time it is reached (what is shared counts as often as it is met; a slice's spare places count too). A statement '..UptoSaid' is the law's where the arguments, and the package variables that the reading takes, are together of bulk at most 1048576: NARROWER than '..Said'. Prove '..Said' where nothing that the law and all that it calls make is longer than what came in: it says more and counts as full. Else prove '..UptoSaid'. A law counts once. -/
mutual
def uptoBulk {H : Type} : DataW H → Nat
  | .lit (.string bytes) => bytes.length + 1
  | .lit _ => 1
  | .nil => 1
  | .ptr d => uptoBulk d + 1
  | .slice elems spare => uptoBulkAll elems + uptoBulkAll spare + 1
  | .agg parts => uptoBulkAll parts + 1
  | .iface _ d => uptoBulk d + 1
  | .map entries => uptoBulkEntries entries + 1
  | .held _ => 1
def uptoBulkAll {H : Type} : List (DataW H) → Nat
  | [] => 0
  | d :: r => uptoBulk d + uptoBulkAll r
def uptoBulkEntries {H : Type} : List (Lit × DataW H) → Nat
  | [] => 0
  | x :: r => uptoBulkEntry x + uptoBulkEntries r
def uptoBulkEntry {H : Type} : Lit × DataW H → Nat
  | (.string bytes, d) => bytes.length + uptoBulk d + 1
  | (_, d) => uptoBulk d + 1
 end
def uptoSmall : (H : Type) → List (DataW H) → Bool := fun _ ds => decide (uptoBulkAll ds ≤ 1048576)
def OpenSpec.upto (s : _root_.Go.ChangeSpec) : _root_.Go.OpenSpec := { _root_.Go.OpenSpec.ofChange s with cond := some uptoSmall }

/-- 'quoinlaw26.GoscanRaw', WHERE WHAT IT READS IS OF BULK AT MOST 1048576: true; the input reads as it did. -/
def goscanRawUptoRow : OpenClaim := { program := "ytcajiapjdlphmaa", sum := "db9c7fa18891c04a7291ffa66ee3c9292bef02504ddef2160b9deec362523604", func := "quoin/quoinlaw26.GoscanRaw", spec := "goscanRaw", inPlace := ["internal/bytealg.IndexByteString", "internal/bytealg.IndexString"], unfollowed := true, recurses := true, named := ["internal/bytealg.MaxLen"], apart := false, narrowed := true }
def GoscanRawUptoSaid : Prop := goscanRawUptoRow.holds Try.pinned (OpenSpec.upto goscanRawSpec)

/-- 'quoinlaw26.GoscanInserts', WHERE WHAT IT READS IS OF BULK AT MOST 1048576: true; the input reads as it did. -/
def goscanInsertsUptoRow : OpenClaim := { program := "ytcajiapjdlphmaa", sum := "db9c7fa18891c04a7291ffa66ee3c9292bef02504ddef2160b9deec362523604", func := "quoin/quoinlaw26.GoscanInserts", spec := "goscanInserts", inPlace := ["internal/bytealg.IndexByteString", "internal/bytealg.IndexString"], unfollowed := true, recurses := true, named := ["internal/bytealg.MaxLen"], apart := false, narrowed := true }
def GoscanInsertsUptoSaid : Prop := goscanInsertsUptoRow.holds Try.pinned (OpenSpec.upto goscanInsertsSpec)

/-- 'quoinlaw26.GoscanAlls', WHERE WHAT IT READS IS OF BULK AT MOST 1048576: true; the input reads as it did. -/
def goscanAllsUptoRow : OpenClaim := { program := "ytcajiapjdlphmaa", sum := "db9c7fa18891c04a7291ffa66ee3c9292bef02504ddef2160b9deec362523604", func := "quoin/quoinlaw26.GoscanAlls", spec := "goscanAlls", inPlace := ["internal/bytealg.IndexByteString", "internal/bytealg.IndexString"], unfollowed := true, recurses := true, named := ["internal/bytealg.MaxLen"], apart := false, narrowed := true }
def GoscanAllsUptoSaid : Prop := goscanAllsUptoRow.holds Try.pinned (OpenSpec.upto goscanAllsSpec)

/-- 'quoinlaw26.GoscanLines', WHERE WHAT IT READS IS OF BULK AT MOST 1048576: true; the input reads as it did. -/
def goscanLinesUptoRow : OpenClaim := { program := "ytcajiapjdlphmaa", sum := "db9c7fa18891c04a7291ffa66ee3c9292bef02504ddef2160b9deec362523604", func := "quoin/quoinlaw26.GoscanLines", spec := "goscanLines", inPlace := ["internal/bytealg.IndexByteString", "internal/bytealg.IndexString"], unfollowed := true, recurses := true, named := ["internal/bytealg.MaxLen"], apart := false, narrowed := true }
def GoscanLinesUptoSaid : Prop := goscanLinesUptoRow.holds Try.pinned (OpenSpec.upto goscanLinesSpec)

/-- 'quoinlaw26.GoscanBare', WHERE WHAT IT READS IS OF BULK AT MOST 1048576: true; the input reads as it did. -/
def goscanBareUptoRow : OpenClaim := { program := "ytcajiapjdlphmaa", sum := "db9c7fa18891c04a7291ffa66ee3c9292bef02504ddef2160b9deec362523604", func := "quoin/quoinlaw26.GoscanBare", spec := "goscanBare", inPlace := ["internal/bytealg.IndexByteString", "internal/bytealg.IndexString"], unfollowed := true, recurses := true, named := ["internal/bytealg.MaxLen"], apart := false, narrowed := true }
def GoscanBareUptoSaid : Prop := goscanBareUptoRow.holds Try.pinned (OpenSpec.upto goscanBareSpec)

/-- 'quoinlaw26.GoscanKinds', WHERE WHAT IT READS IS OF BULK AT MOST 1048576: true; the input reads as it did. -/
def goscanKindsUptoRow : OpenClaim := { program := "ytcajiapjdlphmaa", sum := "db9c7fa18891c04a7291ffa66ee3c9292bef02504ddef2160b9deec362523604", func := "quoin/quoinlaw26.GoscanKinds", spec := "goscanKinds", inPlace := ["internal/bytealg.IndexByteString", "internal/bytealg.IndexString"], unfollowed := true, recurses := true, named := ["internal/bytealg.MaxLen"], apart := false, narrowed := true }
def GoscanKindsUptoSaid : Prop := goscanKindsUptoRow.holds Try.pinned (OpenSpec.upto goscanKindsSpec)

end Rows
end Go.Proofs.Ytcajiapjdlphmaa
