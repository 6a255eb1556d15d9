import Derived.Test.YtgfejfeafppagaaDoorPFnExactIsNameName
/- FnExactIsName: the program and the reference tell a name alike. -/
namespace Go.Proofs.YtgfejfeafppagaaDoor.Pure
open Go.RowKit Go.Proofs.YtgfejfeafppagaaDoor.Aux Go.Proofs.YtgfejfeafppagaaDoor.PFnExactIsName Go.Proofs.YtgfejfeafppagaaDoorW.PrintWords

theorem FnExactIsName : laws_FnExactIsName.Pure := by
  intro s hs
  refine Ev.rounds ?_
  unfold laws_FnExactIsName.f
  by_cases h0 : (s.size : Int) > 1048576
  · exact ev_if_pos h0 (Ev.now _)
  · obtain ⟨b, h1, h2, _⟩ := name_same s (by omega)
    refine ev_if_neg h0 (Ev.bind h1 (Ev.bind h2 (ev_if_neg ?_ (Ev.now _))))
    simp

end Go.Proofs.YtgfejfeafppagaaDoor.Pure
