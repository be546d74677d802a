/-
  NARROWER THAN 'FOR EVERY INPUT', by the rows' own cells (each row's printed sentence says how): FontWidths: laid · FontTexts: laid · FontSums: laid · FontHyphens: laid · FontFits: laid.
  DERIVED. THE GIVEN ROWS OF THIS SEAT. 5 by the template 'for every input the law returns true; each argument reads behind the call as it read before'; 0 by the template 'total and deterministic' (their statements: YtceodelgalfjfaaDoorTotals.lean).
  GIVEN WITH THE SEED: the statements are not yours to turn. If you find one false, say at which input.
  Laid BY PROGRAM, IN A SANDBOX (cutbox-rows.mjs): the forced cells as the released guide's own fill.sh prints them over the translation bfea83b8751a27da… (all of the seat's roots in one cut). By AI agents, Wed Nov 11 2026. No macro, syntax, notation, axiom, sorry.
-/
import Derived.Test.YtceodelgalfjfaaDoorChecked
import GoSem.Claim
import GoSem.ClaimJoined
import GoSem.ClaimMapViews
import Derived.JoinedTies
import Derived.KernelRfl
namespace Go.Proofs.YtceodelgalfjfaaDoor
/- THE CELL 'sum', in the pinned program and in every row, IS THE sha256 OF THE DUMP (.gsa) THAT YtceodelgalfjfaaDoorProg.lean LOADS. Nothing in Lean hashes anything: it is a label: what it is worth is what the hold of that sum in a sandbox is worth. -/
noncomputable def Tryd.pinned : Pinned := { name := "ytceodelgalfjfaadoor", sum := "bfea83b8751a27da00ce285d117fd6fc8cd9b41297d8ea67069471d404704099", checked := Tryd.checked }
namespace Rows
def none {H : Type} : Left H := { results := [], args := [] }

/- WHAT THE LISTED PACKAGE-LEVEL VARIABLES READ AS WHEN THE CALL BEGINS. Each datum BY PROGRAM (the guide's laid-datum.mjs) off the statement by which the dump's own 'gosem.cut.vars' lays the variable. In a bare row this is a premise. The card (YtceodelgalfjfaaDoorCards.lean) ties it to the program's text. -/
def laid_publisher_font_ascii {H : Type} : DataW H := .agg [.lit (.int .u8 30), .lit (.int .u8 25), .lit (.int .u8 50), .lit (.int .u8 50), .lit (.int .u8 50), .lit (.int .u8 85), .lit (.int .u8 70), .lit (.int .u8 25), .lit (.int .u8 30), .lit (.int .u8 30), .lit (.int .u8 50), .lit (.int .u8 50), .lit (.int .u8 25), .lit (.int .u8 30), .lit (.int .u8 25), .lit (.int .u8 30), .lit (.int .u8 50), .lit (.int .u8 50), .lit (.int .u8 50), .lit (.int .u8 50), .lit (.int .u8 50), .lit (.int .u8 50), .lit (.int .u8 50), .lit (.int .u8 50), .lit (.int .u8 50), .lit (.int .u8 50), .lit (.int .u8 25), .lit (.int .u8 25), .lit (.int .u8 50), .lit (.int .u8 50), .lit (.int .u8 50), .lit (.int .u8 50), .lit (.int .u8 85), .lit (.int .u8 70), .lit (.int .u8 70), .lit (.int .u8 70), .lit (.int .u8 70), .lit (.int .u8 70), .lit (.int .u8 70), .lit (.int .u8 70), .lit (.int .u8 70), .lit (.int .u8 30), .lit (.int .u8 50), .lit (.int .u8 70), .lit (.int .u8 70), .lit (.int .u8 85), .lit (.int .u8 70), .lit (.int .u8 70), .lit (.int .u8 70), .lit (.int .u8 70), .lit (.int .u8 70), .lit (.int .u8 70), .lit (.int .u8 70), .lit (.int .u8 70), .lit (.int .u8 70), .lit (.int .u8 85), .lit (.int .u8 70), .lit (.int .u8 70), .lit (.int .u8 70), .lit (.int .u8 30), .lit (.int .u8 30), .lit (.int .u8 30), .lit (.int .u8 50), .lit (.int .u8 50), .lit (.int .u8 25), .lit (.int .u8 50), .lit (.int .u8 50), .lit (.int .u8 50), .lit (.int .u8 50), .lit (.int .u8 50), .lit (.int .u8 30), .lit (.int .u8 50), .lit (.int .u8 50), .lit (.int .u8 25), .lit (.int .u8 25), .lit (.int .u8 50), .lit (.int .u8 25), .lit (.int .u8 85), .lit (.int .u8 50), .lit (.int .u8 50), .lit (.int .u8 50), .lit (.int .u8 50), .lit (.int .u8 30), .lit (.int .u8 50), .lit (.int .u8 30), .lit (.int .u8 50), .lit (.int .u8 50), .lit (.int .u8 85), .lit (.int .u8 50), .lit (.int .u8 50), .lit (.int .u8 50), .lit (.int .u8 50), .lit (.int .u8 25), .lit (.int .u8 50), .lit (.int .u8 50)]

/-- 'publisherlaw37.FontWidths': WHATEVER THE INPUT: true; the input reads as it did. -/
def fontWidthsSpec : ChangeSpec := { name := "fontWidths", fn := fun _ => fun
  | [d] => { results := [.lit (.bool true)], args := [d] }
  | _ => none }
def fontWidthsRow : OpenClaim := { program := "ytceodelgalfjfaadoor", sum := "bfea83b8751a27da00ce285d117fd6fc8cd9b41297d8ea67069471d404704099", func := "publisher/publisherlaw37.FontWidths", spec := "fontWidths", unfollowed := true, recurses := true, named := ["publisher/font.ascii"], apart := false, laid := [("publisher/font.ascii", laid_publisher_font_ascii)] }
def FontWidthsSaid : Prop := fontWidthsRow.holds Tryd.pinned (OpenSpec.ofChange fontWidthsSpec)

/-- ITS FALSE NEIGHBOUR: 'it returns false'. Refute it at one input. -/
def fontWidthsWrong : ChangeSpec := { name := "fontWidths", fn := fun _ => fun
  | [d] => { results := [.lit (.bool false)], args := [d] }
  | _ => none }
def FontWidthsWrongFalsely : Prop := fontWidthsRow.holds Tryd.pinned (OpenSpec.ofChange fontWidthsWrong)

/-- 'publisherlaw37.FontTexts': WHATEVER THE INPUT: true; the input reads as it did. -/
def fontTextsSpec : ChangeSpec := { name := "fontTexts", fn := fun _ => fun
  | [d] => { results := [.lit (.bool true)], args := [d] }
  | _ => none }
def fontTextsRow : OpenClaim := { program := "ytceodelgalfjfaadoor", sum := "bfea83b8751a27da00ce285d117fd6fc8cd9b41297d8ea67069471d404704099", func := "publisher/publisherlaw37.FontTexts", spec := "fontTexts", unfollowed := true, recurses := true, named := ["publisher/font.ascii"], apart := false, laid := [("publisher/font.ascii", laid_publisher_font_ascii)] }
def FontTextsSaid : Prop := fontTextsRow.holds Tryd.pinned (OpenSpec.ofChange fontTextsSpec)

/-- ITS FALSE NEIGHBOUR: 'it returns false'. Refute it at one input. -/
def fontTextsWrong : ChangeSpec := { name := "fontTexts", fn := fun _ => fun
  | [d] => { results := [.lit (.bool false)], args := [d] }
  | _ => none }
def FontTextsWrongFalsely : Prop := fontTextsRow.holds Tryd.pinned (OpenSpec.ofChange fontTextsWrong)

/-- 'publisherlaw37.FontSums': WHATEVER THE INPUT: true; the input reads as it did. -/
def fontSumsSpec : ChangeSpec := { name := "fontSums", fn := fun _ => fun
  | [d1, d2] => { results := [.lit (.bool true)], args := [d1, d2] }
  | _ => none }
def fontSumsRow : OpenClaim := { program := "ytceodelgalfjfaadoor", sum := "bfea83b8751a27da00ce285d117fd6fc8cd9b41297d8ea67069471d404704099", func := "publisher/publisherlaw37.FontSums", spec := "fontSums", unfollowed := true, recurses := true, named := ["publisher/font.ascii"], apart := false, laid := [("publisher/font.ascii", laid_publisher_font_ascii)] }
def FontSumsSaid : Prop := fontSumsRow.holds Tryd.pinned (OpenSpec.ofChange fontSumsSpec)

/-- ITS FALSE NEIGHBOUR: 'it returns false'. Refute it at one input. -/
def fontSumsWrong : ChangeSpec := { name := "fontSums", fn := fun _ => fun
  | [d1, d2] => { results := [.lit (.bool false)], args := [d1, d2] }
  | _ => none }
def FontSumsWrongFalsely : Prop := fontSumsRow.holds Tryd.pinned (OpenSpec.ofChange fontSumsWrong)

/-- 'publisherlaw37.FontHyphens': WHATEVER THE INPUT: true; the input reads as it did. -/
def fontHyphensSpec : ChangeSpec := { name := "fontHyphens", fn := fun _ => fun
  | [d] => { results := [.lit (.bool true)], args := [d] }
  | _ => none }
def fontHyphensRow : OpenClaim := { program := "ytceodelgalfjfaadoor", sum := "bfea83b8751a27da00ce285d117fd6fc8cd9b41297d8ea67069471d404704099", func := "publisher/publisherlaw37.FontHyphens", spec := "fontHyphens", unfollowed := true, recurses := true, named := ["publisher/font.ascii"], apart := false, laid := [("publisher/font.ascii", laid_publisher_font_ascii)] }
def FontHyphensSaid : Prop := fontHyphensRow.holds Tryd.pinned (OpenSpec.ofChange fontHyphensSpec)

/-- ITS FALSE NEIGHBOUR: 'it returns false'. Refute it at one input. -/
def fontHyphensWrong : ChangeSpec := { name := "fontHyphens", fn := fun _ => fun
  | [d] => { results := [.lit (.bool false)], args := [d] }
  | _ => none }
def FontHyphensWrongFalsely : Prop := fontHyphensRow.holds Tryd.pinned (OpenSpec.ofChange fontHyphensWrong)

/-- 'publisherlaw37.FontFits': WHATEVER THE INPUT: true; the input reads as it did. -/
def fontFitsSpec : ChangeSpec := { name := "fontFits", fn := fun _ => fun
  | [d1, d2, d3] => { results := [.lit (.bool true)], args := [d1, d2, d3] }
  | _ => none }
def fontFitsRow : OpenClaim := { program := "ytceodelgalfjfaadoor", sum := "bfea83b8751a27da00ce285d117fd6fc8cd9b41297d8ea67069471d404704099", func := "publisher/publisherlaw37.FontFits", spec := "fontFits", unfollowed := true, recurses := true, named := ["publisher/font.ascii"], apart := false, laid := [("publisher/font.ascii", laid_publisher_font_ascii)] }
def FontFitsSaid : Prop := fontFitsRow.holds Tryd.pinned (OpenSpec.ofChange fontFitsSpec)

/-- ITS FALSE NEIGHBOUR: 'it returns false'. Refute it at one input. -/
def fontFitsWrong : ChangeSpec := { name := "fontFits", fn := fun _ => fun
  | [d1, d2, d3] => { results := [.lit (.bool false)], args := [d1, d2, d3] }
  | _ => none }
def FontFitsWrongFalsely : Prop := fontFitsRow.holds Tryd.pinned (OpenSpec.ofChange fontFitsWrong)

/- THE SECOND FORM. 'bulk': how many values and letters a reading holds, each counted each time it is reached (what is shared counts as often as it is met; a slice's spare places count too). A statement '..UptoSaid' is the law's where the arguments, and the package variables that the reading takes, are together of bulk at most 1048576: NARROWER than '..Said'. Prove '..Said' where nothing that the law and all that it calls make is longer than what came in: it says more and counts as full. Else prove '..UptoSaid'. A law counts once. -/
mutual
def uptoBulk {H : Type} : DataW H → Nat
  | .lit (.string bytes) => bytes.length + 1
  | .lit _ => 1
  | .nil => 1
  | .ptr d => uptoBulk d + 1
  | .slice elems spare => uptoBulkAll elems + uptoBulkAll spare + 1
  | .agg parts => uptoBulkAll parts + 1
  | .iface _ d => uptoBulk d + 1
  | .map entries => uptoBulkEntries entries + 1
  | .held _ => 1
def uptoBulkAll {H : Type} : List (DataW H) → Nat
  | [] => 0
  | d :: r => uptoBulk d + uptoBulkAll r
def uptoBulkEntries {H : Type} : List (Lit × DataW H) → Nat
  | [] => 0
  | x :: r => uptoBulkEntry x + uptoBulkEntries r
def uptoBulkEntry {H : Type} : Lit × DataW H → Nat
  | (.string bytes, d) => bytes.length + uptoBulk d + 1
  | (_, d) => uptoBulk d + 1
 end
def uptoSmall : (H : Type) → List (DataW H) → Bool := fun _ ds => decide (uptoBulkAll ds ≤ 1048576)
def OpenSpec.upto (s : _root_.Go.ChangeSpec) : _root_.Go.OpenSpec := { _root_.Go.OpenSpec.ofChange s with cond := some uptoSmall }

/-- 'publisherlaw37.FontWidths', WHERE WHAT IT READS IS OF BULK AT MOST 1048576: true; the input reads as it did. -/
def fontWidthsUptoRow : OpenClaim := { program := "ytceodelgalfjfaadoor", sum := "bfea83b8751a27da00ce285d117fd6fc8cd9b41297d8ea67069471d404704099", func := "publisher/publisherlaw37.FontWidths", spec := "fontWidths", unfollowed := true, recurses := true, named := ["publisher/font.ascii"], apart := false, laid := [("publisher/font.ascii", laid_publisher_font_ascii)], narrowed := true }
def FontWidthsUptoSaid : Prop := fontWidthsUptoRow.holds Tryd.pinned (OpenSpec.upto fontWidthsSpec)

/-- 'publisherlaw37.FontTexts', WHERE WHAT IT READS IS OF BULK AT MOST 1048576: true; the input reads as it did. -/
def fontTextsUptoRow : OpenClaim := { program := "ytceodelgalfjfaadoor", sum := "bfea83b8751a27da00ce285d117fd6fc8cd9b41297d8ea67069471d404704099", func := "publisher/publisherlaw37.FontTexts", spec := "fontTexts", unfollowed := true, recurses := true, named := ["publisher/font.ascii"], apart := false, laid := [("publisher/font.ascii", laid_publisher_font_ascii)], narrowed := true }
def FontTextsUptoSaid : Prop := fontTextsUptoRow.holds Tryd.pinned (OpenSpec.upto fontTextsSpec)

/-- 'publisherlaw37.FontSums', WHERE WHAT IT READS IS OF BULK AT MOST 1048576: true; the input reads as it did. -/
def fontSumsUptoRow : OpenClaim := { program := "ytceodelgalfjfaadoor", sum := "bfea83b8751a27da00ce285d117fd6fc8cd9b41297d8ea67069471d404704099", func := "publisher/publisherlaw37.FontSums", spec := "fontSums", unfollowed := true, recurses := true, named := ["publisher/font.ascii"], apart := false, laid := [("publisher/font.ascii", laid_publisher_font_ascii)], narrowed := true }
def FontSumsUptoSaid : Prop := fontSumsUptoRow.holds Tryd.pinned (OpenSpec.upto fontSumsSpec)

/-- 'publisherlaw37.FontHyphens', WHERE WHAT IT READS IS OF BULK AT MOST 1048576: true; the input reads as it did. -/
def fontHyphensUptoRow : OpenClaim := { program := "ytceodelgalfjfaadoor", sum := "bfea83b8751a27da00ce285d117fd6fc8cd9b41297d8ea67069471d404704099", func := "publisher/publisherlaw37.FontHyphens", spec := "fontHyphens", unfollowed := true, recurses := true, named := ["publisher/font.ascii"], apart := false, laid := [("publisher/font.ascii", laid_publisher_font_ascii)], narrowed := true }
def FontHyphensUptoSaid : Prop := fontHyphensUptoRow.holds Tryd.pinned (OpenSpec.upto fontHyphensSpec)

/-- 'publisherlaw37.FontFits', WHERE WHAT IT READS IS OF BULK AT MOST 1048576: true; the input reads as it did. -/
def fontFitsUptoRow : OpenClaim := { program := "ytceodelgalfjfaadoor", sum := "bfea83b8751a27da00ce285d117fd6fc8cd9b41297d8ea67069471d404704099", func := "publisher/publisherlaw37.FontFits", spec := "fontFits", unfollowed := true, recurses := true, named := ["publisher/font.ascii"], apart := false, laid := [("publisher/font.ascii", laid_publisher_font_ascii)], narrowed := true }
def FontFitsUptoSaid : Prop := fontFitsUptoRow.holds Tryd.pinned (OpenSpec.upto fontFitsSpec)

end Rows
end Go.Proofs.YtceodelgalfjfaaDoor
