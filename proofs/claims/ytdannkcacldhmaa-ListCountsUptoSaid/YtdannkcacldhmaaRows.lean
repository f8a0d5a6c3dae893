/-
  No cell of these rows narrows 'for every input' (looked for: loops, veiled, ifaces, maps, wideKeys, modest, calm, conditions, laid).
  DERIVED. THE GIVEN ROWS OF THIS SEAT. 7 by the template 'for every input the law returns true; each argument reads behind the call as it read before'; 0 by the template 'total and deterministic' (their statements: YtdannkcacldhmaaTotals.lean).
  GIVEN WITH THE SEED: the statements are not yours to turn. If you find one false, say at which input.
  Laid BY PROGRAM, IN A SANDBOX (cutbox-rows.mjs): the forced cells as the released guide's own fill.sh prints them over the translation 2dd854d59c41d2be… (all of the seat's roots in one cut). By AI agents, Wed Nov 11 2026. No macro, syntax, notation, axiom, sorry.
-/
import Derived.Test.YtdannkcacldhmaaChecked
import GoSem.Claim
import GoSem.ClaimJoined
import GoSem.ClaimMapViews
import Derived.JoinedTies
import Derived.KernelRfl
namespace Go.Proofs.Ytdannkcacldhmaa
/- THE CELL 'sum', in the pinned program and in every row, IS THE sha256 OF THE DUMP (.gsa) THAT YtdannkcacldhmaaProg.lean LOADS. Nothing in Lean hashes anything: it is a label: what it is worth is what the hold of that sum in a sandbox is worth. -/
noncomputable def Try.pinned : Pinned := { name := "ytdannkcacldhmaa", sum := "2dd854d59c41d2be95bccddd79192177cf8ffc25cf24ea402bd2f2a52e74058f", checked := Try.checked }
namespace Rows
def none {H : Type} : Left H := { results := [], args := [] }

/-- 'linguisterlaw2.LexEnds': WHATEVER THE INPUT: true; the input reads as it did. -/
def lexEndsSpec : ChangeSpec := { name := "lexEnds", fn := fun _ => fun
  | [d1, d2] => { results := [.lit (.bool true)], args := [d1, d2] }
  | _ => none }
def lexEndsRow : OpenClaim := { program := "ytdannkcacldhmaa", sum := "2dd854d59c41d2be95bccddd79192177cf8ffc25cf24ea402bd2f2a52e74058f", func := "linguister/linguisterlaw2.LexEnds", spec := "lexEnds", inPlace := ["internal/bytealg.IndexByteString", "internal/abi.NoEscape"], unfollowed := true, recurses := true, apart := false }
def LexEndsSaid : Prop := lexEndsRow.holds Try.pinned (OpenSpec.ofChange lexEndsSpec)

/-- ITS FALSE NEIGHBOUR: 'it returns false'. Refute it at one input. -/
def lexEndsWrong : ChangeSpec := { name := "lexEnds", fn := fun _ => fun
  | [d1, d2] => { results := [.lit (.bool false)], args := [d1, d2] }
  | _ => none }
def LexEndsWrongFalsely : Prop := lexEndsRow.holds Try.pinned (OpenSpec.ofChange lexEndsWrong)

/-- 'linguisterlaw1.OpsSame': WHATEVER THE INPUT: true; the input reads as it did. -/
def opsSameSpec : ChangeSpec := { name := "opsSame", fn := fun _ => fun
  | [d1, d2] => { results := [.lit (.bool true)], args := [d1, d2] }
  | _ => none }
def opsSameRow : OpenClaim := { program := "ytdannkcacldhmaa", sum := "2dd854d59c41d2be95bccddd79192177cf8ffc25cf24ea402bd2f2a52e74058f", func := "linguister/linguisterlaw1.OpsSame", spec := "opsSame", apart := false }
def OpsSameSaid : Prop := opsSameRow.holds Try.pinned (OpenSpec.ofChange opsSameSpec)

/-- ITS FALSE NEIGHBOUR: 'it returns false'. Refute it at one input. -/
def opsSameWrong : ChangeSpec := { name := "opsSame", fn := fun _ => fun
  | [d1, d2] => { results := [.lit (.bool false)], args := [d1, d2] }
  | _ => none }
def OpsSameWrongFalsely : Prop := opsSameRow.holds Try.pinned (OpenSpec.ofChange opsSameWrong)

/-- 'linguisterlaw1.DecRises': WHATEVER THE INPUT: true; the input reads as it did. -/
def decRisesSpec : ChangeSpec := { name := "decRises", fn := fun _ => fun
  | [d1, d2, d3, d4] => { results := [.lit (.bool true)], args := [d1, d2, d3, d4] }
  | _ => none }
def decRisesRow : OpenClaim := { program := "ytdannkcacldhmaa", sum := "2dd854d59c41d2be95bccddd79192177cf8ffc25cf24ea402bd2f2a52e74058f", func := "linguister/linguisterlaw1.DecRises", spec := "decRises", recurses := true, apart := false }
def DecRisesSaid : Prop := decRisesRow.holds Try.pinned (OpenSpec.ofChange decRisesSpec)

/-- ITS FALSE NEIGHBOUR: 'it returns false'. Refute it at one input. -/
def decRisesWrong : ChangeSpec := { name := "decRises", fn := fun _ => fun
  | [d1, d2, d3, d4] => { results := [.lit (.bool false)], args := [d1, d2, d3, d4] }
  | _ => none }
def DecRisesWrongFalsely : Prop := decRisesRow.holds Try.pinned (OpenSpec.ofChange decRisesWrong)

/-- 'linguisterlaw1.DecOrder': WHATEVER THE INPUT: true; the input reads as it did. -/
def decOrderSpec : ChangeSpec := { name := "decOrder", fn := fun _ => fun
  | [d1, d2, d3] => { results := [.lit (.bool true)], args := [d1, d2, d3] }
  | _ => none }
def decOrderRow : OpenClaim := { program := "ytdannkcacldhmaa", sum := "2dd854d59c41d2be95bccddd79192177cf8ffc25cf24ea402bd2f2a52e74058f", func := "linguister/linguisterlaw1.DecOrder", spec := "decOrder", recurses := true, apart := false }
def DecOrderSaid : Prop := decOrderRow.holds Try.pinned (OpenSpec.ofChange decOrderSpec)

/-- ITS FALSE NEIGHBOUR: 'it returns false'. Refute it at one input. -/
def decOrderWrong : ChangeSpec := { name := "decOrder", fn := fun _ => fun
  | [d1, d2, d3] => { results := [.lit (.bool false)], args := [d1, d2, d3] }
  | _ => none }
def DecOrderWrongFalsely : Prop := decOrderRow.holds Try.pinned (OpenSpec.ofChange decOrderWrong)

/-- 'linguisterlaw1.DecNear': WHATEVER THE INPUT: true; the input reads as it did. -/
def decNearSpec : ChangeSpec := { name := "decNear", fn := fun _ => fun
  | [d1, d2, d3] => { results := [.lit (.bool true)], args := [d1, d2, d3] }
  | _ => none }
def decNearRow : OpenClaim := { program := "ytdannkcacldhmaa", sum := "2dd854d59c41d2be95bccddd79192177cf8ffc25cf24ea402bd2f2a52e74058f", func := "linguister/linguisterlaw1.DecNear", spec := "decNear", recurses := true, apart := false }
def DecNearSaid : Prop := decNearRow.holds Try.pinned (OpenSpec.ofChange decNearSpec)

/-- ITS FALSE NEIGHBOUR: 'it returns false'. Refute it at one input. -/
def decNearWrong : ChangeSpec := { name := "decNear", fn := fun _ => fun
  | [d1, d2, d3] => { results := [.lit (.bool false)], args := [d1, d2, d3] }
  | _ => none }
def DecNearWrongFalsely : Prop := decNearRow.holds Try.pinned (OpenSpec.ofChange decNearWrong)

/-- 'linguisterlaw1.DecAdds': WHATEVER THE INPUT: true; the input reads as it did. -/
def decAddsSpec : ChangeSpec := { name := "decAdds", fn := fun _ => fun
  | [d1, d2, d3] => { results := [.lit (.bool true)], args := [d1, d2, d3] }
  | _ => none }
def decAddsRow : OpenClaim := { program := "ytdannkcacldhmaa", sum := "2dd854d59c41d2be95bccddd79192177cf8ffc25cf24ea402bd2f2a52e74058f", func := "linguister/linguisterlaw1.DecAdds", spec := "decAdds", recurses := true, apart := false }
def DecAddsSaid : Prop := decAddsRow.holds Try.pinned (OpenSpec.ofChange decAddsSpec)

/-- ITS FALSE NEIGHBOUR: 'it returns false'. Refute it at one input. -/
def decAddsWrong : ChangeSpec := { name := "decAdds", fn := fun _ => fun
  | [d1, d2, d3] => { results := [.lit (.bool false)], args := [d1, d2, d3] }
  | _ => none }
def DecAddsWrongFalsely : Prop := decAddsRow.holds Try.pinned (OpenSpec.ofChange decAddsWrong)

/-- 'linguisterlaw2.ListCounts': WHATEVER THE INPUT: true; the input reads as it did. -/
def listCountsSpec : ChangeSpec := { name := "listCounts", fn := fun _ => fun
  | [d1, d2] => { results := [.lit (.bool true)], args := [d1, d2] }
  | _ => none }
def listCountsRow : OpenClaim := { program := "ytdannkcacldhmaa", sum := "2dd854d59c41d2be95bccddd79192177cf8ffc25cf24ea402bd2f2a52e74058f", func := "linguister/linguisterlaw2.ListCounts", spec := "listCounts", inPlace := ["internal/abi.NoEscape", "internal/bytealg.MakeNoZero", "internal/bytealg.CountString", "internal/bytealg.IndexByteString", "internal/bytealg.IndexString"], named := ["internal/bytealg.MaxLen"], apart := false }
def ListCountsSaid : Prop := listCountsRow.holds Try.pinned (OpenSpec.ofChange listCountsSpec)

/-- ITS FALSE NEIGHBOUR: 'it returns false'. Refute it at one input. -/
def listCountsWrong : ChangeSpec := { name := "listCounts", fn := fun _ => fun
  | [d1, d2] => { results := [.lit (.bool false)], args := [d1, d2] }
  | _ => none }
def ListCountsWrongFalsely : Prop := listCountsRow.holds Try.pinned (OpenSpec.ofChange listCountsWrong)

/- THE SECOND FORM. 'bulk': how many values and letters a reading holds, each counted each time it is reached (what is shared counts as often as it is met; a slice's spare places count too). A statement '..UptoSaid' is the law's where the arguments, and the package variables that the reading takes, are together of bulk at most 1048576: NARROWER than '..Said'. Prove '..Said' where nothing that the law and all that it calls make is longer than what came in: it says more and counts as full. Else prove '..UptoSaid'. A law counts once. -/
mutual
def uptoBulk {H : Type} : DataW H → Nat
  | .lit (.string bytes) => bytes.length + 1
  | .lit _ => 1
  | .nil => 1
  | .ptr d => uptoBulk d + 1
  | .slice elems spare => uptoBulkAll elems + uptoBulkAll spare + 1
  | .agg parts => uptoBulkAll parts + 1
  | .iface _ d => uptoBulk d + 1
  | .map entries => uptoBulkEntries entries + 1
  | .held _ => 1
def uptoBulkAll {H : Type} : List (DataW H) → Nat
  | [] => 0
  | d :: r => uptoBulk d + uptoBulkAll r
def uptoBulkEntries {H : Type} : List (Lit × DataW H) → Nat
  | [] => 0
  | x :: r => uptoBulkEntry x + uptoBulkEntries r
def uptoBulkEntry {H : Type} : Lit × DataW H → Nat
  | (.string bytes, d) => bytes.length + uptoBulk d + 1
  | (_, d) => uptoBulk d + 1
 end
def uptoSmall : (H : Type) → List (DataW H) → Bool := fun _ ds => decide (uptoBulkAll ds ≤ 1048576)
def OpenSpec.upto (s : _root_.Go.ChangeSpec) : _root_.Go.OpenSpec := { _root_.Go.OpenSpec.ofChange s with cond := some uptoSmall }

/-- 'linguisterlaw2.LexEnds', WHERE WHAT IT READS IS OF BULK AT MOST 1048576: true; the input reads as it did. -/
def lexEndsUptoRow : OpenClaim := { program := "ytdannkcacldhmaa", sum := "2dd854d59c41d2be95bccddd79192177cf8ffc25cf24ea402bd2f2a52e74058f", func := "linguister/linguisterlaw2.LexEnds", spec := "lexEnds", inPlace := ["internal/bytealg.IndexByteString", "internal/abi.NoEscape"], unfollowed := true, recurses := true, apart := false, narrowed := true }
def LexEndsUptoSaid : Prop := lexEndsUptoRow.holds Try.pinned (OpenSpec.upto lexEndsSpec)

/-- 'linguisterlaw1.OpsSame', WHERE WHAT IT READS IS OF BULK AT MOST 1048576: true; the input reads as it did. -/
def opsSameUptoRow : OpenClaim := { program := "ytdannkcacldhmaa", sum := "2dd854d59c41d2be95bccddd79192177cf8ffc25cf24ea402bd2f2a52e74058f", func := "linguister/linguisterlaw1.OpsSame", spec := "opsSame", apart := false, narrowed := true }
def OpsSameUptoSaid : Prop := opsSameUptoRow.holds Try.pinned (OpenSpec.upto opsSameSpec)

/-- 'linguisterlaw1.DecRises', WHERE WHAT IT READS IS OF BULK AT MOST 1048576: true; the input reads as it did. -/
def decRisesUptoRow : OpenClaim := { program := "ytdannkcacldhmaa", sum := "2dd854d59c41d2be95bccddd79192177cf8ffc25cf24ea402bd2f2a52e74058f", func := "linguister/linguisterlaw1.DecRises", spec := "decRises", recurses := true, apart := false, narrowed := true }
def DecRisesUptoSaid : Prop := decRisesUptoRow.holds Try.pinned (OpenSpec.upto decRisesSpec)

/-- 'linguisterlaw1.DecOrder', WHERE WHAT IT READS IS OF BULK AT MOST 1048576: true; the input reads as it did. -/
def decOrderUptoRow : OpenClaim := { program := "ytdannkcacldhmaa", sum := "2dd854d59c41d2be95bccddd79192177cf8ffc25cf24ea402bd2f2a52e74058f", func := "linguister/linguisterlaw1.DecOrder", spec := "decOrder", recurses := true, apart := false, narrowed := true }
def DecOrderUptoSaid : Prop := decOrderUptoRow.holds Try.pinned (OpenSpec.upto decOrderSpec)

/-- 'linguisterlaw1.DecNear', WHERE WHAT IT READS IS OF BULK AT MOST 1048576: true; the input reads as it did. -/
def decNearUptoRow : OpenClaim := { program := "ytdannkcacldhmaa", sum := "2dd854d59c41d2be95bccddd79192177cf8ffc25cf24ea402bd2f2a52e74058f", func := "linguister/linguisterlaw1.DecNear", spec := "decNear", recurses := true, apart := false, narrowed := true }
def DecNearUptoSaid : Prop := decNearUptoRow.holds Try.pinned (OpenSpec.upto decNearSpec)

/-- 'linguisterlaw1.DecAdds', WHERE WHAT IT READS IS OF BULK AT MOST 1048576: true; the input reads as it did. -/
def decAddsUptoRow : OpenClaim := { program := "ytdannkcacldhmaa", sum := "2dd854d59c41d2be95bccddd79192177cf8ffc25cf24ea402bd2f2a52e74058f", func := "linguister/linguisterlaw1.DecAdds", spec := "decAdds", recurses := true, apart := false, narrowed := true }
def DecAddsUptoSaid : Prop := decAddsUptoRow.holds Try.pinned (OpenSpec.upto decAddsSpec)

/-- 'linguisterlaw2.ListCounts', WHERE WHAT IT READS IS OF BULK AT MOST 1048576: true; the input reads as it did. -/
def listCountsUptoRow : OpenClaim := { program := "ytdannkcacldhmaa", sum := "2dd854d59c41d2be95bccddd79192177cf8ffc25cf24ea402bd2f2a52e74058f", func := "linguister/linguisterlaw2.ListCounts", spec := "listCounts", inPlace := ["internal/abi.NoEscape", "internal/bytealg.MakeNoZero", "internal/bytealg.CountString", "internal/bytealg.IndexByteString", "internal/bytealg.IndexString"], named := ["internal/bytealg.MaxLen"], apart := false, narrowed := true }
def ListCountsUptoSaid : Prop := listCountsUptoRow.holds Try.pinned (OpenSpec.upto listCountsSpec)

end Rows
end Go.Proofs.Ytdannkcacldhmaa
