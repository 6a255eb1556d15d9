/- NewWorld: the program's and the reference's are the same new world; each call makes its own. -/
import Derived.Test.YtdoelepflcaijaaNewWorldOpen
import Derived.Test.YtdoelepflcaijaaNewWorldFam
namespace Go.Proofs.Ytdoelepflcaijaa.NewWorld
open Go Go.VS
set_option maxRecDepth 10000
set_option linter.unusedSimpArgs false
set_option linter.unusedVariables false
def newSys : KSys := ⟨[], [⟨⟨#[]⟩, 0, [], [], [], []⟩], [], []⟩
def newWorld : KWorld := ⟨newSys, [], [], 1⟩
theorem specNewSys : A 7 [] = some ([.agg (KSys.row true newSys)], []) := by
  refine run_spec_NewSys ?_
  simp (disch := omega) [if_pos, if_neg, wrap_i64, wrap_u8, spec_NewSys.b, newSys]
theorem implNewSys : A 8 [] = some ([.agg (KSys.row true newSys)], []) := by
  refine run_impl_NewSys ?_
  simp (disch := omega) [if_pos, if_neg, wrap_i64, wrap_u8, impl_NewSys.b, newSys]
theorem specNewWorld : A 23 [] = some ([.agg (KWorld.row true newWorld)], []) := by
  refine run_spec_NewWorld ?_
  simp (disch := omega) [if_pos, if_neg, wrap_i64, wrap_u8, spec_NewWorld.b, specNewSys, newWorld, newSys]
theorem implNewWorld : A 24 [] = some ([.agg (KWorld.row true newWorld)], []) := by
  refine run_impl_NewWorld ?_
  simp (disch := omega) [if_pos, if_neg, wrap_i64, wrap_u8, impl_NewWorld.b, implNewSys, newWorld, newSys]
theorem pure : ∃ outs, A 6 [] = some ([.leaf (.bool true)], outs) := by
  refine ⟨_, run_laws_FnExactNewWorld (r := ([.leaf (.bool true)], [])) ?_⟩
  have e : KWorld.top newWorld = 2 := rfl
  have e2 : KSys.top newSys = 2 := rfl
  have c1 : KCell.cnts newWorld.sys.heap = 0 := rfl
  have c2 : KInst.cnts newWorld.sys.insts = 2 := rfl
  have c3 : KUnit.cnts newWorld.sys.units = 0 := rfl
  have c4 : newWorld.sys.out.length = 0 := rfl
  have c5 : KEnt.cnts newWorld.libs = 0 := rfl
  have c6 : KTask.cnts newWorld.tasks = 0 := rfl
  simp (disch := omega) [if_pos, if_neg, wrap_i64, wrap_u8, laws_FnExactNewWorld.b, specNewWorld, implNewWorld, eqWorld, markWorld, heldWorld]
end Go.Proofs.Ytdoelepflcaijaa.NewWorld
