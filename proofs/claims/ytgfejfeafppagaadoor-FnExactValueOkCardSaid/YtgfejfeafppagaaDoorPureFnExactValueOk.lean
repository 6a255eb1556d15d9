import Derived.Test.YtgfejfeafppagaaDoorPFnExactValueOkKin
import Derived.Test.YtgfejfeafppagaaDoorPFnExactValueOkValue
/- FnExactValueOk: the program and the reference tell a value alike, and its cells stay as they were. -/
namespace Go.Proofs.YtgfejfeafppagaaDoor.Pure
open Go.RowKit Go.Proofs.YtgfejfeafppagaaDoor.Aux Go.Proofs.YtgfejfeafppagaaDoor.PFnExactValueOk Go.Proofs.YtgfejfeafppagaaDoorW.PrintWords

theorem FnExactValueOk : laws_FnExactValueOk.Pure := by
  intro h v hh hv
  obtain ⟨_, _, hs⟩ := hv
  refine Ev.rounds ?_
  unfold laws_FnExactValueOk.f
  refine Ev.bind (szCellS_is h 1048576 (by omega) (by omega) hh.1 hh.2) ?_
  by_cases c1 : cut 1048576 (wCellS h) < 0
  · exact ev_if_pos c1 (Ev.now _)
  obtain ⟨e1, _⟩ := cut_pos c1
  have n1 := wCellS_nn h
  refine ev_if_neg c1 (Ev.bind (szValue_is v.f0 v.f1 v.f2 (cut 1048576 (wCellS h)) (by omega) (by omega) hs) ?_)
  by_cases c2 : cut (cut 1048576 (wCellS h)) (wValue v.f0 v.f1 v.f2) < 0
  · exact ev_if_pos c2 (Ev.now _)
  have ht := toCellS_is h hh.1 hh.2
  have hl := hh.2
  obtain ⟨b, b1, b2⟩ := value_same (h.map cCell) (by rw [List.length_map]; omega) v.f0 v.f1 v.f2 hs
  have he := eqCellS_is (h.map cCell) (fun y hy => by obtain ⟨z, hz, rfl⟩ := List.mem_map.mp hy; exact fit_cCell z (hh.1 z hz)) (by rw [List.length_map]; omega)
  have hv := toValue_is v.f0 v.f1 v.f2
  exact ev_if_neg c2 (Ev.bind ht (Ev.bind hv (Ev.bind b1 (Ev.bind ht (Ev.bind hv (Ev.bind b2 (ev_if_neg (by simp) (Ev.bind ht (Ev.bind he (ev_if_pos rfl (Ev.now _)))))))))))

end Go.Proofs.YtgfejfeafppagaaDoor.Pure
