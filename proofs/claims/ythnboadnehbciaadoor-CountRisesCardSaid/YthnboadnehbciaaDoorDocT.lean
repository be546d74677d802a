/- The types of documents, in this program's numbers. -/
import Derived.Test.YthnboadnehbciaaDoorEngOpenS
import Derived.Test.YthnboadnehbciaaDoorFacts
namespace Go.Proofs.Ythnboadnehbciaa
open Go Go.Eng
set_option linter.unusedSimpArgs false
set_option linter.unusedVariables false
def docT : DocTys Tryd.prog where
  int := 3
  bool := 4
  s := 9
  ss := 32
  pair := 53
  pairs := 22
  cite := 84
  cites := 55
  attr := 40
  inl := 57
  inls := 36
  blk := 42
  blks := 23
  hint := by kernel_rfl
  hbool := by kernel_rfl
  hs := by kernel_rfl
  hss := by kernel_rfl
  hpairs := by kernel_rfl
  hcites := by kernel_rfl
  hinls := by kernel_rfl
  hblks := by kernel_rfl
  hpair := ⟨Tryd.prog.fieldsOf 53, by kernel_rfl, by kernel_rfl⟩
  hcite := ⟨Tryd.prog.fieldsOf 84, by kernel_rfl, by kernel_rfl⟩
  hattr := ⟨Tryd.prog.fieldsOf 40, by kernel_rfl, by kernel_rfl⟩
  hinl := ⟨Tryd.prog.fieldsOf 57, by kernel_rfl, by kernel_rfl⟩
  hblk := ⟨Tryd.prog.fieldsOf 42, by kernel_rfl, by kernel_rfl⟩
  cint := by kernel_rfl
  cbool := by kernel_rfl
  cs := by kernel_rfl
  css := by kernel_rfl
  cpairs := by kernel_rfl
  ccites := by kernel_rfl
  cinls := by kernel_rfl
  cblks := by kernel_rfl
  cpair := by kernel_rfl
  ccite := by kernel_rfl
  cattr := by kernel_rfl
  cinl := by kernel_rfl
  cblk := by kernel_rfl
  ys := of_decide_eq_true (by kernel_rfl)
  ypair := of_decide_eq_true (by kernel_rfl)
  ycite := of_decide_eq_true (by kernel_rfl)
  yinl := of_decide_eq_true (by kernel_rfl)
  yblk := of_decide_eq_true (by kernel_rfl)
theorem docFl : FldsAre Tryd.prog 25 [(0, docT.pairs), (1, docT.blks)] := ⟨Tryd.prog.fieldsOf 25, by kernel_rfl, by kernel_rfl⟩
end Go.Proofs.Ythnboadnehbciaa
