/-
  NARROWER THAN 'FOR EVERY INPUT', by the rows' own cells (each row's printed sentence says how): FnExactReFind: laid · FnExactReTest: laid · FnExactReEnds: laid · FnExactReCount: laid · FnExactReSub: laid · FnFinds: laid · FnStars: laid · FnAlts: laid.
  DERIVED. THE GIVEN ROWS OF THIS SEAT. 8 by the template 'for every input the law returns true; each argument reads behind the call as it read before'; 0 by the template 'total and deterministic' (their statements: YtlakdfbfkbndiaaDoorTotals.lean).
  GIVEN WITH THE SEED: the statements are not yours to turn. If you find one false, say at which input.
  Laid BY PROGRAM, IN A SANDBOX (cutbox-rows.mjs): the forced cells as the released guide's own fill.sh prints them over the translation c7072939c998df2e… (all of the seat's roots in one cut). By AI agents, Wed Nov 11 2026. No macro, syntax, notation, axiom, sorry.
-/
import Derived.Test.YtlakdfbfkbndiaaDoorChecked
import GoSem.Claim
import GoSem.ClaimJoined
import GoSem.ClaimMapViews
import Derived.JoinedTies
import Derived.KernelRfl
namespace Go.Proofs.YtlakdfbfkbndiaaDoor
/- THE CELL 'sum', in the pinned program and in every row, IS THE sha256 OF THE DUMP (.gsa) THAT YtlakdfbfkbndiaaDoorProg.lean LOADS. Nothing in Lean hashes anything: it is a label: what it is worth is what the hold of that sum in a sandbox is worth. -/
noncomputable def Tryd.pinned : Pinned := { name := "ytlakdfbfkbndiaadoor", sum := "c7072939c998df2e6e86b42b9cb1aa20c0b66ddda1ebb31b272141556bfdecb6", checked := Tryd.checked }
namespace Rows
def none {H : Type} : Left H := { results := [], args := [] }

/- WHAT THE LISTED PACKAGE-LEVEL VARIABLES READ AS WHEN THE CALL BEGINS. Each datum BY PROGRAM (the guide's laid-datum.mjs) off the statement by which the dump's own 'gosem.cut.vars' lays the variable. In a bare row this is a premise. The card (YtlakdfbfkbndiaaDoorCards.lean) ties it to the program's text. -/
def laid_math_bits_deBruijn64tab {H : Type} : DataW H := .agg [.lit (.int .u8 0), .lit (.int .u8 1), .lit (.int .u8 56), .lit (.int .u8 2), .lit (.int .u8 57), .lit (.int .u8 49), .lit (.int .u8 28), .lit (.int .u8 3), .lit (.int .u8 61), .lit (.int .u8 58), .lit (.int .u8 42), .lit (.int .u8 50), .lit (.int .u8 38), .lit (.int .u8 29), .lit (.int .u8 17), .lit (.int .u8 4), .lit (.int .u8 62), .lit (.int .u8 47), .lit (.int .u8 59), .lit (.int .u8 36), .lit (.int .u8 45), .lit (.int .u8 43), .lit (.int .u8 51), .lit (.int .u8 22), .lit (.int .u8 53), .lit (.int .u8 39), .lit (.int .u8 33), .lit (.int .u8 30), .lit (.int .u8 24), .lit (.int .u8 18), .lit (.int .u8 12), .lit (.int .u8 5), .lit (.int .u8 63), .lit (.int .u8 55), .lit (.int .u8 48), .lit (.int .u8 27), .lit (.int .u8 60), .lit (.int .u8 41), .lit (.int .u8 37), .lit (.int .u8 16), .lit (.int .u8 46), .lit (.int .u8 35), .lit (.int .u8 44), .lit (.int .u8 21), .lit (.int .u8 52), .lit (.int .u8 32), .lit (.int .u8 23), .lit (.int .u8 11), .lit (.int .u8 54), .lit (.int .u8 26), .lit (.int .u8 40), .lit (.int .u8 15), .lit (.int .u8 34), .lit (.int .u8 20), .lit (.int .u8 31), .lit (.int .u8 10), .lit (.int .u8 25), .lit (.int .u8 14), .lit (.int .u8 19), .lit (.int .u8 9), .lit (.int .u8 13), .lit (.int .u8 8), .lit (.int .u8 7), .lit (.int .u8 6)]

/-- 'laws.FnExactReFind': WHATEVER THE INPUT: true; the input reads as it did. -/
def fnExactReFindSpec : ChangeSpec := { name := "fnExactReFind", fn := fun _ => fun
  | [d1, d2] => { results := [.lit (.bool true)], args := [d1, d2] }
  | _ => none }
def fnExactReFindRow : OpenClaim := { program := "ytlakdfbfkbndiaadoor", sum := "c7072939c998df2e6e86b42b9cb1aa20c0b66ddda1ebb31b272141556bfdecb6", func := "loop.example/g00700/laws.FnExactReFind", spec := "fnExactReFind", unfollowed := true, recurses := true, named := ["math/bits.deBruijn64tab"], plainKeys := false, apart := false, laid := [("math/bits.deBruijn64tab", laid_math_bits_deBruijn64tab)] }
def FnExactReFindSaid : Prop := fnExactReFindRow.holds Tryd.pinned (OpenSpec.ofChange fnExactReFindSpec)

/-- ITS FALSE NEIGHBOUR: 'it returns false'. Refute it at one input. -/
def fnExactReFindWrong : ChangeSpec := { name := "fnExactReFind", fn := fun _ => fun
  | [d1, d2] => { results := [.lit (.bool false)], args := [d1, d2] }
  | _ => none }
def FnExactReFindWrongFalsely : Prop := fnExactReFindRow.holds Tryd.pinned (OpenSpec.ofChange fnExactReFindWrong)

/-- 'laws.FnExactReTest': WHATEVER THE INPUT: true; the input reads as it did. -/
def fnExactReTestSpec : ChangeSpec := { name := "fnExactReTest", fn := fun _ => fun
  | [d1, d2] => { results := [.lit (.bool true)], args := [d1, d2] }
  | _ => none }
def fnExactReTestRow : OpenClaim := { program := "ytlakdfbfkbndiaadoor", sum := "c7072939c998df2e6e86b42b9cb1aa20c0b66ddda1ebb31b272141556bfdecb6", func := "loop.example/g00700/laws.FnExactReTest", spec := "fnExactReTest", unfollowed := true, recurses := true, named := ["math/bits.deBruijn64tab"], plainKeys := false, apart := false, laid := [("math/bits.deBruijn64tab", laid_math_bits_deBruijn64tab)] }
def FnExactReTestSaid : Prop := fnExactReTestRow.holds Tryd.pinned (OpenSpec.ofChange fnExactReTestSpec)

/-- ITS FALSE NEIGHBOUR: 'it returns false'. Refute it at one input. -/
def fnExactReTestWrong : ChangeSpec := { name := "fnExactReTest", fn := fun _ => fun
  | [d1, d2] => { results := [.lit (.bool false)], args := [d1, d2] }
  | _ => none }
def FnExactReTestWrongFalsely : Prop := fnExactReTestRow.holds Tryd.pinned (OpenSpec.ofChange fnExactReTestWrong)

/-- 'laws.FnExactReEnds': WHATEVER THE INPUT: true; the input reads as it did. -/
def fnExactReEndsSpec : ChangeSpec := { name := "fnExactReEnds", fn := fun _ => fun
  | [d1, d2, d3] => { results := [.lit (.bool true)], args := [d1, d2, d3] }
  | _ => none }
def fnExactReEndsRow : OpenClaim := { program := "ytlakdfbfkbndiaadoor", sum := "c7072939c998df2e6e86b42b9cb1aa20c0b66ddda1ebb31b272141556bfdecb6", func := "loop.example/g00700/laws.FnExactReEnds", spec := "fnExactReEnds", unfollowed := true, recurses := true, named := ["math/bits.deBruijn64tab"], plainKeys := false, apart := false, laid := [("math/bits.deBruijn64tab", laid_math_bits_deBruijn64tab)] }
def FnExactReEndsSaid : Prop := fnExactReEndsRow.holds Tryd.pinned (OpenSpec.ofChange fnExactReEndsSpec)

/-- ITS FALSE NEIGHBOUR: 'it returns false'. Refute it at one input. -/
def fnExactReEndsWrong : ChangeSpec := { name := "fnExactReEnds", fn := fun _ => fun
  | [d1, d2, d3] => { results := [.lit (.bool false)], args := [d1, d2, d3] }
  | _ => none }
def FnExactReEndsWrongFalsely : Prop := fnExactReEndsRow.holds Tryd.pinned (OpenSpec.ofChange fnExactReEndsWrong)

/-- 'laws.FnExactReCount': WHATEVER THE INPUT: true; the input reads as it did. -/
def fnExactReCountSpec : ChangeSpec := { name := "fnExactReCount", fn := fun _ => fun
  | [d1, d2] => { results := [.lit (.bool true)], args := [d1, d2] }
  | _ => none }
def fnExactReCountRow : OpenClaim := { program := "ytlakdfbfkbndiaadoor", sum := "c7072939c998df2e6e86b42b9cb1aa20c0b66ddda1ebb31b272141556bfdecb6", func := "loop.example/g00700/laws.FnExactReCount", spec := "fnExactReCount", unfollowed := true, recurses := true, named := ["math/bits.deBruijn64tab"], plainKeys := false, apart := false, laid := [("math/bits.deBruijn64tab", laid_math_bits_deBruijn64tab)] }
def FnExactReCountSaid : Prop := fnExactReCountRow.holds Tryd.pinned (OpenSpec.ofChange fnExactReCountSpec)

/-- ITS FALSE NEIGHBOUR: 'it returns false'. Refute it at one input. -/
def fnExactReCountWrong : ChangeSpec := { name := "fnExactReCount", fn := fun _ => fun
  | [d1, d2] => { results := [.lit (.bool false)], args := [d1, d2] }
  | _ => none }
def FnExactReCountWrongFalsely : Prop := fnExactReCountRow.holds Tryd.pinned (OpenSpec.ofChange fnExactReCountWrong)

/-- 'laws.FnExactReSub': WHATEVER THE INPUT: true; the input reads as it did. -/
def fnExactReSubSpec : ChangeSpec := { name := "fnExactReSub", fn := fun _ => fun
  | [d1, d2, d3] => { results := [.lit (.bool true)], args := [d1, d2, d3] }
  | _ => none }
def fnExactReSubRow : OpenClaim := { program := "ytlakdfbfkbndiaadoor", sum := "c7072939c998df2e6e86b42b9cb1aa20c0b66ddda1ebb31b272141556bfdecb6", func := "loop.example/g00700/laws.FnExactReSub", spec := "fnExactReSub", unfollowed := true, recurses := true, named := ["math/bits.deBruijn64tab"], plainKeys := false, apart := false, laid := [("math/bits.deBruijn64tab", laid_math_bits_deBruijn64tab)] }
def FnExactReSubSaid : Prop := fnExactReSubRow.holds Tryd.pinned (OpenSpec.ofChange fnExactReSubSpec)

/-- ITS FALSE NEIGHBOUR: 'it returns false'. Refute it at one input. -/
def fnExactReSubWrong : ChangeSpec := { name := "fnExactReSub", fn := fun _ => fun
  | [d1, d2, d3] => { results := [.lit (.bool false)], args := [d1, d2, d3] }
  | _ => none }
def FnExactReSubWrongFalsely : Prop := fnExactReSubRow.holds Tryd.pinned (OpenSpec.ofChange fnExactReSubWrong)

/-- 'laws.FnFinds': WHATEVER THE INPUT: true; the input reads as it did. -/
def fnFindsSpec : ChangeSpec := { name := "fnFinds", fn := fun _ => fun
  | [d] => { results := [.lit (.bool true)], args := [d] }
  | _ => none }
def fnFindsRow : OpenClaim := { program := "ytlakdfbfkbndiaadoor", sum := "c7072939c998df2e6e86b42b9cb1aa20c0b66ddda1ebb31b272141556bfdecb6", func := "loop.example/g00700/laws.FnFinds", spec := "fnFinds", inPlace := ["internal/bytealg.IndexByteString"], unfollowed := true, recurses := true, named := ["math/bits.deBruijn64tab"], plainKeys := false, apart := false, laid := [("math/bits.deBruijn64tab", laid_math_bits_deBruijn64tab)] }
def FnFindsSaid : Prop := fnFindsRow.holds Tryd.pinned (OpenSpec.ofChange fnFindsSpec)

/-- ITS FALSE NEIGHBOUR: 'it returns false'. Refute it at one input. -/
def fnFindsWrong : ChangeSpec := { name := "fnFinds", fn := fun _ => fun
  | [d] => { results := [.lit (.bool false)], args := [d] }
  | _ => none }
def FnFindsWrongFalsely : Prop := fnFindsRow.holds Tryd.pinned (OpenSpec.ofChange fnFindsWrong)

/-- 'laws.FnStars': WHATEVER THE INPUT: true; the input reads as it did. -/
def fnStarsSpec : ChangeSpec := { name := "fnStars", fn := fun _ => fun
  | [d] => { results := [.lit (.bool true)], args := [d] }
  | _ => none }
def fnStarsRow : OpenClaim := { program := "ytlakdfbfkbndiaadoor", sum := "c7072939c998df2e6e86b42b9cb1aa20c0b66ddda1ebb31b272141556bfdecb6", func := "loop.example/g00700/laws.FnStars", spec := "fnStars", inPlace := ["internal/bytealg.IndexByteString"], unfollowed := true, recurses := true, named := ["math/bits.deBruijn64tab"], plainKeys := false, apart := false, laid := [("math/bits.deBruijn64tab", laid_math_bits_deBruijn64tab)] }
def FnStarsSaid : Prop := fnStarsRow.holds Tryd.pinned (OpenSpec.ofChange fnStarsSpec)

/-- ITS FALSE NEIGHBOUR: 'it returns false'. Refute it at one input. -/
def fnStarsWrong : ChangeSpec := { name := "fnStars", fn := fun _ => fun
  | [d] => { results := [.lit (.bool false)], args := [d] }
  | _ => none }
def FnStarsWrongFalsely : Prop := fnStarsRow.holds Tryd.pinned (OpenSpec.ofChange fnStarsWrong)

/-- 'laws.FnAlts': WHATEVER THE INPUT: true; the input reads as it did. -/
def fnAltsSpec : ChangeSpec := { name := "fnAlts", fn := fun _ => fun
  | [d] => { results := [.lit (.bool true)], args := [d] }
  | _ => none }
def fnAltsRow : OpenClaim := { program := "ytlakdfbfkbndiaadoor", sum := "c7072939c998df2e6e86b42b9cb1aa20c0b66ddda1ebb31b272141556bfdecb6", func := "loop.example/g00700/laws.FnAlts", spec := "fnAlts", inPlace := ["internal/bytealg.IndexByteString"], unfollowed := true, recurses := true, named := ["math/bits.deBruijn64tab"], plainKeys := false, apart := false, laid := [("math/bits.deBruijn64tab", laid_math_bits_deBruijn64tab)] }
def FnAltsSaid : Prop := fnAltsRow.holds Tryd.pinned (OpenSpec.ofChange fnAltsSpec)

/-- ITS FALSE NEIGHBOUR: 'it returns false'. Refute it at one input. -/
def fnAltsWrong : ChangeSpec := { name := "fnAlts", fn := fun _ => fun
  | [d] => { results := [.lit (.bool false)], args := [d] }
  | _ => none }
def FnAltsWrongFalsely : Prop := fnAltsRow.holds Tryd.pinned (OpenSpec.ofChange fnAltsWrong)

/- THE SECOND FORM. 'bulk': how many values and letters a reading holds, each counted each time it is reached (what is shared counts as often as it is met; a slice's spare places count too). A statement '..UptoSaid' is the law's where the arguments, and the package variables that the reading takes, are together of bulk at most 1048576: NARROWER than '..Said'. Prove '..Said' where nothing that the law and all that it calls make is longer than what came in: it says more and counts as full. Else prove '..UptoSaid'. A law counts once. -/
mutual
def uptoBulk {H : Type} : DataW H → Nat
  | .lit (.string bytes) => bytes.length + 1
  | .lit _ => 1
  | .nil => 1
  | .ptr d => uptoBulk d + 1
  | .slice elems spare => uptoBulkAll elems + uptoBulkAll spare + 1
  | .agg parts => uptoBulkAll parts + 1
  | .iface _ d => uptoBulk d + 1
  | .map entries => uptoBulkEntries entries + 1
  | .held _ => 1
def uptoBulkAll {H : Type} : List (DataW H) → Nat
  | [] => 0
  | d :: r => uptoBulk d + uptoBulkAll r
def uptoBulkEntries {H : Type} : List (Lit × DataW H) → Nat
  | [] => 0
  | x :: r => uptoBulkEntry x + uptoBulkEntries r
def uptoBulkEntry {H : Type} : Lit × DataW H → Nat
  | (.string bytes, d) => bytes.length + uptoBulk d + 1
  | (_, d) => uptoBulk d + 1
 end
def uptoSmall : (H : Type) → List (DataW H) → Bool := fun _ ds => decide (uptoBulkAll ds ≤ 1048576)
def OpenSpec.upto (s : _root_.Go.ChangeSpec) : _root_.Go.OpenSpec := { _root_.Go.OpenSpec.ofChange s with cond := some uptoSmall }

/-- 'laws.FnExactReFind', WHERE WHAT IT READS IS OF BULK AT MOST 1048576: true; the input reads as it did. -/
def fnExactReFindUptoRow : OpenClaim := { program := "ytlakdfbfkbndiaadoor", sum := "c7072939c998df2e6e86b42b9cb1aa20c0b66ddda1ebb31b272141556bfdecb6", func := "loop.example/g00700/laws.FnExactReFind", spec := "fnExactReFind", unfollowed := true, recurses := true, named := ["math/bits.deBruijn64tab"], plainKeys := false, apart := false, laid := [("math/bits.deBruijn64tab", laid_math_bits_deBruijn64tab)], narrowed := true }
def FnExactReFindUptoSaid : Prop := fnExactReFindUptoRow.holds Tryd.pinned (OpenSpec.upto fnExactReFindSpec)

/-- 'laws.FnExactReTest', WHERE WHAT IT READS IS OF BULK AT MOST 1048576: true; the input reads as it did. -/
def fnExactReTestUptoRow : OpenClaim := { program := "ytlakdfbfkbndiaadoor", sum := "c7072939c998df2e6e86b42b9cb1aa20c0b66ddda1ebb31b272141556bfdecb6", func := "loop.example/g00700/laws.FnExactReTest", spec := "fnExactReTest", unfollowed := true, recurses := true, named := ["math/bits.deBruijn64tab"], plainKeys := false, apart := false, laid := [("math/bits.deBruijn64tab", laid_math_bits_deBruijn64tab)], narrowed := true }
def FnExactReTestUptoSaid : Prop := fnExactReTestUptoRow.holds Tryd.pinned (OpenSpec.upto fnExactReTestSpec)

/-- 'laws.FnExactReEnds', WHERE WHAT IT READS IS OF BULK AT MOST 1048576: true; the input reads as it did. -/
def fnExactReEndsUptoRow : OpenClaim := { program := "ytlakdfbfkbndiaadoor", sum := "c7072939c998df2e6e86b42b9cb1aa20c0b66ddda1ebb31b272141556bfdecb6", func := "loop.example/g00700/laws.FnExactReEnds", spec := "fnExactReEnds", unfollowed := true, recurses := true, named := ["math/bits.deBruijn64tab"], plainKeys := false, apart := false, laid := [("math/bits.deBruijn64tab", laid_math_bits_deBruijn64tab)], narrowed := true }
def FnExactReEndsUptoSaid : Prop := fnExactReEndsUptoRow.holds Tryd.pinned (OpenSpec.upto fnExactReEndsSpec)

/-- 'laws.FnExactReCount', WHERE WHAT IT READS IS OF BULK AT MOST 1048576: true; the input reads as it did. -/
def fnExactReCountUptoRow : OpenClaim := { program := "ytlakdfbfkbndiaadoor", sum := "c7072939c998df2e6e86b42b9cb1aa20c0b66ddda1ebb31b272141556bfdecb6", func := "loop.example/g00700/laws.FnExactReCount", spec := "fnExactReCount", unfollowed := true, recurses := true, named := ["math/bits.deBruijn64tab"], plainKeys := false, apart := false, laid := [("math/bits.deBruijn64tab", laid_math_bits_deBruijn64tab)], narrowed := true }
def FnExactReCountUptoSaid : Prop := fnExactReCountUptoRow.holds Tryd.pinned (OpenSpec.upto fnExactReCountSpec)

/-- 'laws.FnExactReSub', WHERE WHAT IT READS IS OF BULK AT MOST 1048576: true; the input reads as it did. -/
def fnExactReSubUptoRow : OpenClaim := { program := "ytlakdfbfkbndiaadoor", sum := "c7072939c998df2e6e86b42b9cb1aa20c0b66ddda1ebb31b272141556bfdecb6", func := "loop.example/g00700/laws.FnExactReSub", spec := "fnExactReSub", unfollowed := true, recurses := true, named := ["math/bits.deBruijn64tab"], plainKeys := false, apart := false, laid := [("math/bits.deBruijn64tab", laid_math_bits_deBruijn64tab)], narrowed := true }
def FnExactReSubUptoSaid : Prop := fnExactReSubUptoRow.holds Tryd.pinned (OpenSpec.upto fnExactReSubSpec)

/-- 'laws.FnFinds', WHERE WHAT IT READS IS OF BULK AT MOST 1048576: true; the input reads as it did. -/
def fnFindsUptoRow : OpenClaim := { program := "ytlakdfbfkbndiaadoor", sum := "c7072939c998df2e6e86b42b9cb1aa20c0b66ddda1ebb31b272141556bfdecb6", func := "loop.example/g00700/laws.FnFinds", spec := "fnFinds", inPlace := ["internal/bytealg.IndexByteString"], unfollowed := true, recurses := true, named := ["math/bits.deBruijn64tab"], plainKeys := false, apart := false, laid := [("math/bits.deBruijn64tab", laid_math_bits_deBruijn64tab)], narrowed := true }
def FnFindsUptoSaid : Prop := fnFindsUptoRow.holds Tryd.pinned (OpenSpec.upto fnFindsSpec)

/-- 'laws.FnStars', WHERE WHAT IT READS IS OF BULK AT MOST 1048576: true; the input reads as it did. -/
def fnStarsUptoRow : OpenClaim := { program := "ytlakdfbfkbndiaadoor", sum := "c7072939c998df2e6e86b42b9cb1aa20c0b66ddda1ebb31b272141556bfdecb6", func := "loop.example/g00700/laws.FnStars", spec := "fnStars", inPlace := ["internal/bytealg.IndexByteString"], unfollowed := true, recurses := true, named := ["math/bits.deBruijn64tab"], plainKeys := false, apart := false, laid := [("math/bits.deBruijn64tab", laid_math_bits_deBruijn64tab)], narrowed := true }
def FnStarsUptoSaid : Prop := fnStarsUptoRow.holds Tryd.pinned (OpenSpec.upto fnStarsSpec)

/-- 'laws.FnAlts', WHERE WHAT IT READS IS OF BULK AT MOST 1048576: true; the input reads as it did. -/
def fnAltsUptoRow : OpenClaim := { program := "ytlakdfbfkbndiaadoor", sum := "c7072939c998df2e6e86b42b9cb1aa20c0b66ddda1ebb31b272141556bfdecb6", func := "loop.example/g00700/laws.FnAlts", spec := "fnAlts", inPlace := ["internal/bytealg.IndexByteString"], unfollowed := true, recurses := true, named := ["math/bits.deBruijn64tab"], plainKeys := false, apart := false, laid := [("math/bits.deBruijn64tab", laid_math_bits_deBruijn64tab)], narrowed := true }
def FnAltsUptoSaid : Prop := fnAltsUptoRow.holds Tryd.pinned (OpenSpec.upto fnAltsSpec)

end Rows
end Go.Proofs.YtlakdfbfkbndiaaDoor
