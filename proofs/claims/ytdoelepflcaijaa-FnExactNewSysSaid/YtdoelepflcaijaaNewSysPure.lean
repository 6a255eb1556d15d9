/- NewSys: the program's and the reference's are the same new system; each call makes its own. -/
import Derived.Test.YtdoelepflcaijaaNewSysOpen
import Derived.Test.YtdoelepflcaijaaNewSysFam
namespace Go.Proofs.Ytdoelepflcaijaa.NewSys
open Go Go.VS
set_option maxRecDepth 10000
set_option linter.unusedSimpArgs false
set_option linter.unusedVariables false
def newSys : KSys := ⟨[], [⟨⟨#[]⟩, 0, [], [], [], []⟩], [], []⟩
theorem specNewSys : A 7 [] = some ([.agg (KSys.row true newSys)], []) := by
  refine run_spec_NewSys ?_
  simp (disch := omega) [if_pos, if_neg, wrap_i64, wrap_u8, spec_NewSys.b, newSys]
theorem implNewSys : A 8 [] = some ([.agg (KSys.row true newSys)], []) := by
  refine run_impl_NewSys ?_
  simp (disch := omega) [if_pos, if_neg, wrap_i64, wrap_u8, impl_NewSys.b, newSys]
theorem pure : ∃ outs, A 3 [] = some ([.leaf (.bool true)], outs) := by
  refine ⟨_, run_laws_FnExactNewSys (r := ([.leaf (.bool true)], [])) ?_⟩
  have e : KSys.top newSys = 2 := rfl
  have c1 : KCell.cnts newSys.heap = 0 := rfl
  have c2 : KInst.cnts newSys.insts = 2 := rfl
  have c3 : KUnit.cnts newSys.units = 0 := rfl
  have c4 : newSys.out.length = 0 := rfl
  simp (disch := omega) [if_pos, if_neg, wrap_i64, wrap_u8, laws_FnExactNewSys.b, specNewSys, implNewSys, eqSys, markSys, heldSys]

end Go.Proofs.Ytdoelepflcaijaa.NewSys
