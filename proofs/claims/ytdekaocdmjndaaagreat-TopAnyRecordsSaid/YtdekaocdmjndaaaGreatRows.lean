/-
  No cell of these rows narrows 'for every input' (looked for: loops, veiled, ifaces, maps, wideKeys, modest, calm, conditions, laid).
  DERIVED. THE GIVEN ROWS OF THIS SEAT. 4 by the template 'for every input the law returns true; each argument reads behind the call as it read before'; 0 by the template 'total and deterministic' (their statements: YtdekaocdmjndaaaGreatTotals.lean).
  GIVEN WITH THE SEED: the statements are not yours to turn. If you find one false, say at which input.
  Laid BY PROGRAM, IN A SANDBOX (cutbox-rows.mjs): the forced cells as the released guide's own fill.sh prints them over the translation 9503602e1973c15e… (all of the seat's roots in one cut). By AI agents, Wed Nov 11 2026. No macro, syntax, notation, axiom, sorry.
-/
import Derived.Test.YtdekaocdmjndaaaGreatChecked
import GoSem.Claim
import GoSem.ClaimJoined
import GoSem.ClaimMapViews
import Derived.JoinedTies
import Derived.KernelRfl
namespace Go.Proofs.YtdekaocdmjndaaaGreat
/- THE CELL 'sum', in the pinned program and in every row, IS THE sha256 OF THE DUMP (.gsa) THAT YtdekaocdmjndaaaGreatProg.lean LOADS. Nothing in Lean hashes anything: it is a label: what it is worth is what the hold of that sum in a sandbox is worth. -/
noncomputable def Tryz.pinned : Pinned := { name := "ytdekaocdmjndaaagreat", sum := "9503602e1973c15ebfdf6e21aa2fb3aefee7b1a4123eb02db66f5a08ca630341", checked := Tryz.checked }
namespace Rows
def none {H : Type} : Left H := { results := [], args := [] }

/-- 'tithingtop.TopAnyTables': WHATEVER THE INPUT: true; the input reads as it did. -/
def topAnyTablesSpec : ChangeSpec := { name := "topAnyTables", fn := fun _ => fun
  | [d1, d2, d3, d4] => { results := [.lit (.bool true)], args := [d1, d2, d3, d4] }
  | _ => none }
def topAnyTablesRow : OpenClaim := { program := "ytdekaocdmjndaaagreat", sum := "9503602e1973c15ebfdf6e21aa2fb3aefee7b1a4123eb02db66f5a08ca630341", func := "tithing/tithingtop.TopAnyTables", spec := "topAnyTables", unfollowed := true, recurses := true, plainKeys := false, apart := false }
def TopAnyTablesSaid : Prop := topAnyTablesRow.holds Tryz.pinned (OpenSpec.ofChange topAnyTablesSpec)

/-- ITS FALSE NEIGHBOUR: 'it returns false'. Refute it at one input. -/
def topAnyTablesWrong : ChangeSpec := { name := "topAnyTables", fn := fun _ => fun
  | [d1, d2, d3, d4] => { results := [.lit (.bool false)], args := [d1, d2, d3, d4] }
  | _ => none }
def TopAnyTablesWrongFalsely : Prop := topAnyTablesRow.holds Tryz.pinned (OpenSpec.ofChange topAnyTablesWrong)

/-- 'tithingtop.TopAnyRecords': WHATEVER THE INPUT: true; the input reads as it did. -/
def topAnyRecordsSpec : ChangeSpec := { name := "topAnyRecords", fn := fun _ => fun
  | [d1, d2, d3, d4] => { results := [.lit (.bool true)], args := [d1, d2, d3, d4] }
  | _ => none }
def topAnyRecordsRow : OpenClaim := { program := "ytdekaocdmjndaaagreat", sum := "9503602e1973c15ebfdf6e21aa2fb3aefee7b1a4123eb02db66f5a08ca630341", func := "tithing/tithingtop.TopAnyRecords", spec := "topAnyRecords", unfollowed := true, recurses := true, plainKeys := false, apart := false }
def TopAnyRecordsSaid : Prop := topAnyRecordsRow.holds Tryz.pinned (OpenSpec.ofChange topAnyRecordsSpec)

/-- ITS FALSE NEIGHBOUR: 'it returns false'. Refute it at one input. -/
def topAnyRecordsWrong : ChangeSpec := { name := "topAnyRecords", fn := fun _ => fun
  | [d1, d2, d3, d4] => { results := [.lit (.bool false)], args := [d1, d2, d3, d4] }
  | _ => none }
def TopAnyRecordsWrongFalsely : Prop := topAnyRecordsRow.holds Tryz.pinned (OpenSpec.ofChange topAnyRecordsWrong)

/-- 'tithingtop.TopAnyCells': WHATEVER THE INPUT: true; the input reads as it did. -/
def topAnyCellsSpec : ChangeSpec := { name := "topAnyCells", fn := fun _ => fun
  | [d1, d2, d3, d4, d5] => { results := [.lit (.bool true)], args := [d1, d2, d3, d4, d5] }
  | _ => none }
def topAnyCellsRow : OpenClaim := { program := "ytdekaocdmjndaaagreat", sum := "9503602e1973c15ebfdf6e21aa2fb3aefee7b1a4123eb02db66f5a08ca630341", func := "tithing/tithingtop.TopAnyCells", spec := "topAnyCells", unfollowed := true, recurses := true, plainKeys := false, apart := false }
def TopAnyCellsSaid : Prop := topAnyCellsRow.holds Tryz.pinned (OpenSpec.ofChange topAnyCellsSpec)

/-- ITS FALSE NEIGHBOUR: 'it returns false'. Refute it at one input. -/
def topAnyCellsWrong : ChangeSpec := { name := "topAnyCells", fn := fun _ => fun
  | [d1, d2, d3, d4, d5] => { results := [.lit (.bool false)], args := [d1, d2, d3, d4, d5] }
  | _ => none }
def TopAnyCellsWrongFalsely : Prop := topAnyCellsRow.holds Tryz.pinned (OpenSpec.ofChange topAnyCellsWrong)

/-- 'tithingtop.TopAnyLinks': WHATEVER THE INPUT: true; the input reads as it did. -/
def topAnyLinksSpec : ChangeSpec := { name := "topAnyLinks", fn := fun _ => fun
  | [d1, d2, d3, d4, d5] => { results := [.lit (.bool true)], args := [d1, d2, d3, d4, d5] }
  | _ => none }
def topAnyLinksRow : OpenClaim := { program := "ytdekaocdmjndaaagreat", sum := "9503602e1973c15ebfdf6e21aa2fb3aefee7b1a4123eb02db66f5a08ca630341", func := "tithing/tithingtop.TopAnyLinks", spec := "topAnyLinks", unfollowed := true, recurses := true, plainKeys := false, apart := false }
def TopAnyLinksSaid : Prop := topAnyLinksRow.holds Tryz.pinned (OpenSpec.ofChange topAnyLinksSpec)

/-- ITS FALSE NEIGHBOUR: 'it returns false'. Refute it at one input. -/
def topAnyLinksWrong : ChangeSpec := { name := "topAnyLinks", fn := fun _ => fun
  | [d1, d2, d3, d4, d5] => { results := [.lit (.bool false)], args := [d1, d2, d3, d4, d5] }
  | _ => none }
def TopAnyLinksWrongFalsely : Prop := topAnyLinksRow.holds Tryz.pinned (OpenSpec.ofChange topAnyLinksWrong)

/- THE SECOND FORM. 'bulk': how many values and letters a reading holds, each counted each time it is reached (what is shared counts as often as it is met; a slice's spare places count too). A statement '..UptoSaid' is the law's where the arguments, and the package variables that the reading takes, are together of bulk at most 1048576: NARROWER than '..Said'. Prove '..Said' where nothing that the law and all that it calls make is longer than what came in: it says more and counts as full. Else prove '..UptoSaid'. A law counts once. -/
mutual
def uptoBulk {H : Type} : DataW H → Nat
  | .lit (.string bytes) => bytes.length + 1
  | .lit _ => 1
  | .nil => 1
  | .ptr d => uptoBulk d + 1
  | .slice elems spare => uptoBulkAll elems + uptoBulkAll spare + 1
  | .agg parts => uptoBulkAll parts + 1
  | .iface _ d => uptoBulk d + 1
  | .map entries => uptoBulkEntries entries + 1
  | .held _ => 1
def uptoBulkAll {H : Type} : List (DataW H) → Nat
  | [] => 0
  | d :: r => uptoBulk d + uptoBulkAll r
def uptoBulkEntries {H : Type} : List (Lit × DataW H) → Nat
  | [] => 0
  | x :: r => uptoBulkEntry x + uptoBulkEntries r
def uptoBulkEntry {H : Type} : Lit × DataW H → Nat
  | (.string bytes, d) => bytes.length + uptoBulk d + 1
  | (_, d) => uptoBulk d + 1
 end
def uptoSmall : (H : Type) → List (DataW H) → Bool := fun _ ds => decide (uptoBulkAll ds ≤ 1048576)
def OpenSpec.upto (s : _root_.Go.ChangeSpec) : _root_.Go.OpenSpec := { _root_.Go.OpenSpec.ofChange s with cond := some uptoSmall }

/-- 'tithingtop.TopAnyTables', WHERE WHAT IT READS IS OF BULK AT MOST 1048576: true; the input reads as it did. -/
def topAnyTablesUptoRow : OpenClaim := { program := "ytdekaocdmjndaaagreat", sum := "9503602e1973c15ebfdf6e21aa2fb3aefee7b1a4123eb02db66f5a08ca630341", func := "tithing/tithingtop.TopAnyTables", spec := "topAnyTables", unfollowed := true, recurses := true, plainKeys := false, apart := false, narrowed := true }
def TopAnyTablesUptoSaid : Prop := topAnyTablesUptoRow.holds Tryz.pinned (OpenSpec.upto topAnyTablesSpec)

/-- 'tithingtop.TopAnyRecords', WHERE WHAT IT READS IS OF BULK AT MOST 1048576: true; the input reads as it did. -/
def topAnyRecordsUptoRow : OpenClaim := { program := "ytdekaocdmjndaaagreat", sum := "9503602e1973c15ebfdf6e21aa2fb3aefee7b1a4123eb02db66f5a08ca630341", func := "tithing/tithingtop.TopAnyRecords", spec := "topAnyRecords", unfollowed := true, recurses := true, plainKeys := false, apart := false, narrowed := true }
def TopAnyRecordsUptoSaid : Prop := topAnyRecordsUptoRow.holds Tryz.pinned (OpenSpec.upto topAnyRecordsSpec)

/-- 'tithingtop.TopAnyCells', WHERE WHAT IT READS IS OF BULK AT MOST 1048576: true; the input reads as it did. -/
def topAnyCellsUptoRow : OpenClaim := { program := "ytdekaocdmjndaaagreat", sum := "9503602e1973c15ebfdf6e21aa2fb3aefee7b1a4123eb02db66f5a08ca630341", func := "tithing/tithingtop.TopAnyCells", spec := "topAnyCells", unfollowed := true, recurses := true, plainKeys := false, apart := false, narrowed := true }
def TopAnyCellsUptoSaid : Prop := topAnyCellsUptoRow.holds Tryz.pinned (OpenSpec.upto topAnyCellsSpec)

/-- 'tithingtop.TopAnyLinks', WHERE WHAT IT READS IS OF BULK AT MOST 1048576: true; the input reads as it did. -/
def topAnyLinksUptoRow : OpenClaim := { program := "ytdekaocdmjndaaagreat", sum := "9503602e1973c15ebfdf6e21aa2fb3aefee7b1a4123eb02db66f5a08ca630341", func := "tithing/tithingtop.TopAnyLinks", spec := "topAnyLinks", unfollowed := true, recurses := true, plainKeys := false, apart := false, narrowed := true }
def TopAnyLinksUptoSaid : Prop := topAnyLinksUptoRow.holds Tryz.pinned (OpenSpec.upto topAnyLinksSpec)

end Rows
end Go.Proofs.YtdekaocdmjndaaaGreat
