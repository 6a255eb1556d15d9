import Derived.Test.YtgfejfeafppagaaDoorZFnExactProgOkPFnExactProgOkKin
import Derived.Test.YtgfejfeafppagaaDoorZFnExactProgOkPFnExactProgOkProg
/- FnExactProgOk: the program and the reference tell a right program alike, and it stays as it was. -/
namespace Go.Proofs.YtgfejfeafppagaaDoor.Pure
open Go.RowKit Go.Proofs.YtgfejfeafppagaaDoor.Aux Go.Proofs.YtgfejfeafppagaaDoor.PFnExactProgOk Go.Proofs.YtgfejfeafppagaaDoorW.PrintWords

theorem FnExactProgOk : laws_FnExactProgOk.Pure := by
  intro p hp
  obtain ⟨h0, _⟩ := hp
  refine Ev.rounds ?_
  unfold laws_FnExactProgOk.f
  refine Ev.bind (szProg_is p.f0 p.f1 1048576 (by omega) (by omega) h0) ?_
  by_cases c1 : cut 1048576 (wProg p.f0 p.f1) < 0
  · exact ev_if_pos c1 (Ev.now _)
  obtain ⟨_, hw⟩ := cut_pos c1
  have ht := toProg_is p.f0 p.f1 h0
  have hl := h0.2
  have hg : ∀ y ∈ p.f0.map cNode, good122 y := by
    intro y hy
    obtain ⟨z, hz, rfl⟩ := List.mem_map.mp hy
    obtain ⟨_, _, h2, h3, h4⟩ := h0.1 z hz
    have w1 := wsum_mem (fun x : S150 => wNode x.f0 x.f1 x.f2 x.f3 x.f4) (fun x => wNode_nn _ _ _ _ _) p.f0 z hz
    have n1 := wStringS_nn z.f3
    have n2 := wIntS_nn z.f4
    have w2 : wNode z.f0 z.f1 z.f2 z.f3 z.f4 ≤ 1048576 := by
      unfold wProg wNodeS at hw
      omega
    unfold wNode at w2
    refine ⟨by show z.f2.size < _; omega, fun s hs => ?_, by have := h3.2; show z.f3.length ≤ _; omega, by show z.f4.length ≤ _; omega⟩
    have w3 := wsum_mem (fun x : ByteArray => (x.size : Int)) (fun x => by omega) z.f3 s hs
    unfold wStringS at w2
    omega
  obtain ⟨b, b1, b2, _⟩ := prog_same (p.f0.map cNode) p.f1 (by rw [List.length_map]; omega) hg
  have he := eqProg_is (p.f0.map cNode) p.f1 ⟨fun y hy => by obtain ⟨z, hz, rfl⟩ := List.mem_map.mp hy; exact fit_cNode z (h0.1 z hz), by rw [List.length_map]; omega⟩
  exact ev_if_neg c1 (Ev.bind ht (Ev.bind b1 (Ev.bind ht (Ev.bind b2 (ev_if_neg (by simp) (Ev.bind ht (Ev.bind he (ev_if_pos rfl (Ev.now _)))))))))

end Go.Proofs.YtgfejfeafppagaaDoor.Pure
