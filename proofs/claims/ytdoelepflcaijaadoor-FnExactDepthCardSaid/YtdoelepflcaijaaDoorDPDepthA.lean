/- How deep a program is: the program's and the reference's tell the same. -/
import Derived.Test.YtdoelepflcaijaaDoorDPProgA
namespace Go.Proofs.YtdoelepflcaijaaDoor.DP
open Go Go.VS Go.Lib
set_option maxRecDepth 10000
set_option maxHeartbeats 8000000
set_option linter.unusedSimpArgs false
set_option linter.unusedVariables false
def lift (i : Nat) (m : List Int) (a : Int) : List Int := if m.getD i 0 < m.getD a.toNat 0 then m.set i (m.getD a.toNat 0) else m
def maxArgs (i : Nat) : List Int → List Int → List Int
  | m, [] => m
  | m, a :: l => maxArgs i (lift i m a) l
def deepNodes : Nat → List Int → List KNode → List Int
  | _, m, [] => m
  | i, m, x :: xs => deepNodes (i + 1) (bump (maxArgs i m x.args) i) xs
/-- The depth of a program. -/
noncomputable def depthB (p : KProg) : Int := if progB p = true then (deepNodes 0 (List.replicate p.nodes.length 0) p.nodes).getD p.root.toNat 0 else 0
def ArgsOk : Int → List KNode → Prop
  | _, [] => True
  | i, x :: xs => (∀ a ∈ x.args, 0 ≤ a ∧ a < i) ∧ ArgsOk (i + 1) xs
theorem countArgs_ok (i : Int) : ∀ (l m m' : List Int), countArgs i m l = some m' → ∀ a ∈ l, 0 ≤ a ∧ a < i
  | [], m, m', h, a, ha => by cases ha
  | b :: l, m, m', h, a, ha => by
    simp only [countArgs] at h
    split at h
    · rename_i hb
      rcases List.mem_cons.1 ha with rfl | ha
      · exact hb
      · exact countArgs_ok i l _ _ h a ha
    · cases h
theorem countNodes_ok : ∀ (l : List KNode) (i : Int) (m m' : List Int), countNodes i m l = some m' → ArgsOk i l
  | [], i, m, m', h => trivial
  | x :: l, i, m, m', h => by
    simp only [countNodes] at h
    split at h
    · split at h
      · rename_i m1 h1
        exact ⟨countArgs_ok i _ _ _ h1, countNodes_ok l _ _ _ h⟩
      · cases h
    · cases h
theorem progB_ok {p : KProg} (h : progB p = true) : ArgsOk 0 p.nodes ∧ p.root = (p.nodes.length : Int) - 1 ∧ 1 ≤ p.nodes.length := by
  unfold progB at h
  simp only [Bool.and_eq_true, decide_eq_true_eq] at h
  obtain ⟨h1, h2, h3⟩ := h
  refine ⟨?_, h2, ?_⟩
  · split at h3
    · rename_i m hm
      exact countNodes_ok _ _ _ _ hm
    · cases h3
  · unfold within at h1
    simp at h1
    omega
theorem lift_length (i : Nat) (m : List Int) (a : Int) : (lift i m a).length = m.length := by unfold lift; split <;> simp
theorem lift_small {c : Int} {m : List Int} (h : Small c m) (i : Nat) (a : Int) (ha : a.toNat < m.length) : Small c (lift i m a) := by
  unfold lift
  split
  · intro v hv
    rcases List.mem_or_eq_of_mem_set hv with hv | rfl
    · exact h v hv
    · exact (at_small h a ha).2
  · exact h
theorem maxArgs_length (i : Nat) : ∀ (l m : List Int), (maxArgs i m l).length = m.length
  | [], m => rfl
  | a :: l, m => by rw [maxArgs, maxArgs_length i l, lift_length]
theorem maxArgs_small {c : Int} (i : Nat) : ∀ (l m : List Int), Small c m → (∀ a ∈ l, 0 ≤ a ∧ a < (m.length : Int)) → Small c (maxArgs i m l)
  | [], m, h, _ => h
  | a :: l, m, h, ha => by
    rw [maxArgs]
    refine maxArgs_small i l _ (lift_small h i a (by have := ha a (by simp); omega)) fun b hb => ?_
    rw [lift_length]
    exact ha b (by simp [hb])
theorem nat_at {c : Int} {m : List Int} (h : Small c m) (i : Nat) (hi : i < m.length) : m[i]'hi = m.getD i 0 ∧ 0 ≤ m.getD i 0 ∧ m.getD i 0 ≤ c := by
  obtain ⟨e1, e2⟩ := at_small h (i : Int) (by simpa using hi)
  simp only [Int.toNat_natCast] at e1 e2
  rw [List.getElem?_eq_getElem hi] at e1
  exact ⟨Option.some.inj e1, e2⟩
theorem sdArgs (pre post : List KNode) (root : Int) (x : KNode) (ks : List Fr) (Q : VX → Env → Prop) (hn : (pre.length : Int) + (post.length + 1) ≤ 1048576) (hq0 : (x.args.length : Int) ≤ 1048576) : ∀ (rest done m : List Int) (k c : Int), x.args = done ++ rest → k = done.length → (m.length : Int) = pre.length + (post.length + 1) → Small c m → c ≤ 1000000000000000 → (∀ a ∈ rest, 0 ≤ a ∧ a < (pre.length : Int)) →
    Run G A (.exit 2) [(1, .v (.box (KProg.row false ⟨pre ++ x :: post, root⟩))), (3, .v (.leaf (Kints true (maxArgs pre.length m rest)))), (4, .v (.leaf (.int .i64 pre.length))), (5, .v (.leaf (.int .i64 x.args.length))), (27, .v (.leaf (.bool false)))] ks Q →
    Run G A (.loop spec_Depth.l0) [(1, .v (.box (KProg.row false ⟨pre ++ x :: post, root⟩))), (3, .v (.leaf (Kints true m))), (4, .v (.leaf (.int .i64 pre.length))), (5, .v (.leaf (.int .i64 k)))] ks Q := by
  intro rest
  induction rest with
  | nil =>
    intro done m k c hd hk hm hs hc ha hq
    have hl : (done.length : Int) = x.args.length := by rw [hd]; simp
    subst hk
    refine run_loop_at spec_Depth.l0.eq_1 ?_
    rw [hl]
    simp (maxSteps := 1000000) (disch := omega) [if_pos, if_neg, wrap_i64, wrap_u8, get_mid]
    simpa [maxArgs] using hq
  | cons a rest ih =>
    intro done m k c hd hk hm hs hc ha hq
    have hl : (x.args.length : Int) = done.length + (rest.length + 1) := by rw [hd]; simp
    have ha0 := ha a (by simp)
    have hat : a.toNat < m.length := by omega
    have hit : pre.length < m.length := by omega
    obtain ⟨e1, e2, e3⟩ := nat_at hs a.toNat hat
    obtain ⟨f1, f2, f3⟩ := nat_at hs pre.length hit
    have ih := ih (done ++ [a]) (lift pre.length m a) (done.length + 1) c (by rw [hd]; simp) (by simp) (by rw [lift_length]; exact hm) (lift_small hs _ a hat) hc (fun b hb => ha b (by simp [hb])) hq
    subst hk
    refine run_loop_at spec_Depth.l0.eq_1 ?_
    unfold lift at ih
    generalize m.getD a.toNat 0 = u at *
    generalize m.getD pre.length 0 = v at *
    by_cases hlt : v < u
    · rw [if_pos hlt] at ih
      simp (maxSteps := 1000000) (disch := omega) [if_pos, if_neg, wrap_i64, wrap_u8, get_mid, hd, e1, f1, hlt]
      refine run_env ih ?_
      simp
    · rw [if_neg hlt] at ih
      simp (maxSteps := 1000000) (disch := omega) [if_pos, if_neg, wrap_i64, wrap_u8, get_mid, hd, e1, f1, hlt]
      refine run_env ih ?_
      simp
theorem sdNodes (root : Int) (ks : List Fr) (Q : VX → Env → Prop) : ∀ (rest done : List KNode) (m : List Int) (i c : Int), i = done.length → (m.length : Int) = done.length + rest.length → (done.length : Int) + rest.length ≤ 1048576 → (KNode.us rest : Int) ≤ 1048576 → Small c m → c + rest.length ≤ 100000000000000 → ArgsOk done.length rest →
    Run G A (.exit 0) [(1, .v (.box (KProg.row false ⟨done ++ rest, root⟩))), (3, .v (.leaf (Kints true (deepNodes done.length m rest)))), (4, .v (.leaf (.int .i64 (done.length + rest.length)))), (16, .v (.leaf (.bool false)))] ks Q →
    Run G A (.loop spec_Depth.l1) [(1, .v (.box (KProg.row false ⟨done ++ rest, root⟩))), (3, .v (.leaf (Kints true m))), (4, .v (.leaf (.int .i64 i)))] ks Q := by
  intro rest
  induction rest with
  | nil =>
    intro done m i c hi hm hl hu hs hc hok hq
    subst hi
    refine run_loop_at spec_Depth.l1.eq_1 ?_
    simp only [List.length_nil] at hm
    have hnl : ¬ done.length < m.length := by omega
    simp (maxSteps := 1000000) (disch := omega) [if_pos, if_neg, wrap_i64, wrap_u8, get_mid, hnl]
    simpa [deepNodes] using hq
  | cons x rest ih =>
    intro done m i c hi hm hl hu hs hc hok hq
    subst hi
    simp only [KNode.us, KNode.w, List.length_cons, Int.natCast_add] at hm hl hu hc hq
    refine run_loop_at spec_Depth.l1.eq_1 ?_
    simp (maxSteps := 1000000) (disch := omega) [if_pos, if_neg, wrap_i64, wrap_u8, get_mid]
    refine run_env (sdArgs done rest root x _ _ (by omega) (by omega) x.args [] m 0 c rfl rfl (by omega) hs (by omega) hok.1 ?_) ?_
    · have hml := maxArgs_length done.length x.args m
      have hms := maxArgs_small (c := c) done.length x.args m hs (fun a ha => by have := hok.1 a ha; omega)
      have e : deepNodes done.length m (x :: rest) = deepNodes (done.length + 1) (bump (maxArgs done.length m x.args) done.length) rest := rfl
      rw [e] at hq
      generalize maxArgs done.length m x.args = m1 at *
      have hit : done.length < m1.length := by omega
      obtain ⟨f1, f2, f3⟩ := nat_at hms done.length hit
      have ih := ih (done ++ [x]) (bump m1 done.length) (done.length + 1) (c + 1) (by simp) (by rw [bump_length, hml]; simp; omega) (by simp; omega) (by omega) (small_bump hms _ (by simpa using hit)) (by omega) (by simpa using hok.2)
      unfold bump at ih hq
      simp only [Int.toNat_natCast] at ih hq
      generalize m1.getD done.length 0 = v at *
      simp (maxSteps := 1000000) (disch := omega) [if_pos, if_neg, wrap_i64, wrap_u8, get_mid, f1]
      refine run_env (ih (run_env hq ?_)) ?_
      · simp
        omega
      · simp
    · simp
theorem deepNodes_length : ∀ (l : List KNode) (i : Nat) (m : List Int), (deepNodes i m l).length = m.length
  | [], i, m => rfl
  | x :: l, i, m => by rw [deepNodes, deepNodes_length l, bump_length, maxArgs_length]
theorem specDepth (p : KProg) (hw : (KProg.w p : Int) ≤ 1048576) : A 35 [.agg (KProg.row false p)] = some ([.leaf (.int .i64 (depthB p))], [.gone]) := by
  have hP := specProgOk p hw
  have hd0 : depthB p = if progB p = true then (deepNodes 0 (List.replicate p.nodes.length 0) p.nodes).getD p.root.toNat 0 else 0 := rfl
  obtain ⟨nodes, root⟩ := p
  simp only [KProg.w, Int.natCast_add] at hw
  refine run_spec_Depth ?_
  cases hk : progB ⟨nodes, root⟩ with
  | false =>
    rw [hk] at hP hd0
    simp (maxSteps := 1000000) (disch := omega) [if_pos, if_neg, wrap_i64, wrap_u8, spec_Depth.b, hP, hd0]
  | true =>
    obtain ⟨hok, hroot, hpos⟩ := progB_ok hk
    rw [hk, if_pos rfl] at hd0
    rw [hk] at hP
    rw [hd0]
    simp only at hok hroot hpos ⊢
    simp (maxSteps := 1000000) (disch := omega) [if_pos, if_neg, wrap_i64, wrap_u8, spec_Depth.b, hP]
    refine run_env (sdNodes root _ _ nodes [] (List.replicate nodes.length 0) 0 0 rfl (by simp) (by simp; omega) (by omega) (replicate_small _) (by omega) (by simpa using hok) ?_) ?_
    · have hml := deepNodes_length nodes 0 (List.replicate nodes.length 0)
      simp only [List.length_nil, List.length_replicate] at hml ⊢
      generalize deepNodes 0 (List.replicate nodes.length 0) nodes = m at *
      have hrt : root.toNat < m.length := by omega
      have e1 : m[root.toNat]'hrt = m.getD root.toNat 0 := by rw [List.getD_eq_getElem?_getD, List.getElem?_eq_getElem hrt]; rfl
      have h0 : 0 ≤ root := by omega
      have h1 : root < m.length := by omega
      generalize m.getD root.toNat 0 = v at *
      simp (maxSteps := 1000000) (disch := omega) [if_pos, if_neg, wrap_i64, wrap_u8, e1, h0, h1]
    · simp
theorem idArgs (nodes : List KNode) (i : Nat) (root k17 : Int) (x : KNode) (ks : List Fr) (Q : VX → Env → Prop) (hi1 : (i : Int) ≤ 1048576) (hq0 : (x.args.length : Int) ≤ 1048576) : ∀ (rest done m : List Int) (k c : Int), x.args = done ++ rest → k = done.length → i < m.length → Small c m → c ≤ 1000000000000000 → (∀ a ∈ rest, 0 ≤ a ∧ a < (i : Int)) →
    Run G A (.exit 2) [(1, .v (.box (KProg.row false ⟨nodes, root⟩))), (3, .v (.leaf (Kints true (maxArgs i m rest)))), (4, .v (.leaf (.int .i64 i))), (5, .v (.box (KNode.row false x))), (16, .v (.leaf (KNode.sl false nodes))), (17, .v (.leaf (.int .i64 k17))), (18, .v (.leaf (.int .i64 i))), (24, .v (.leaf (Kints false x.args))), (25, .v (.leaf (.int .i64 x.args.length))), (26, .v (.leaf (.int .i64 x.args.length))), (27, .v (.leaf (.bool false)))] ks Q →
    Run G A (.loop impl_Depth.l0) [(1, .v (.box (KProg.row false ⟨nodes, root⟩))), (3, .v (.leaf (Kints true m))), (4, .v (.leaf (.int .i64 i))), (5, .v (.box (KNode.row false x))), (16, .v (.leaf (KNode.sl false nodes))), (17, .v (.leaf (.int .i64 k17))), (18, .v (.leaf (.int .i64 i))), (24, .v (.leaf (Kints false x.args))), (25, .v (.leaf (.int .i64 x.args.length))), (26, .v (.leaf (.int .i64 k)))] ks Q := by
  intro rest
  induction rest with
  | nil =>
    intro done m k c hd hk hm hs hc ha hq
    have hl : (done.length : Int) = x.args.length := by rw [hd]; simp
    subst hk
    refine run_loop_at impl_Depth.l0.eq_1 ?_
    rw [hl]
    simp (maxSteps := 1000000) (disch := omega) [if_pos, if_neg, wrap_i64, wrap_u8, get_mid]
    simpa [maxArgs] using hq
  | cons a rest ih =>
    intro done m k c hd hk hm hs hc ha hq
    have hl : (x.args.length : Int) = done.length + (rest.length + 1) := by rw [hd]; simp
    have ha0 := ha a (by simp)
    have hat : a.toNat < m.length := by omega
    obtain ⟨e1, e2, e3⟩ := nat_at hs a.toNat hat
    obtain ⟨f1, f2, f3⟩ := nat_at hs i hm
    have ih := ih (done ++ [a]) (lift i m a) (done.length + 1) c (by rw [hd]; simp) (by simp) (by rw [lift_length]; exact hm) (lift_small hs _ a hat) hc (fun b hb => ha b (by simp [hb])) hq
    have hself : m.set i (m.getD i 0) = m := by rw [← f1]; simp
    subst hk
    refine run_loop_at impl_Depth.l0.eq_1 ?_
    unfold lift at ih
    generalize m.getD a.toNat 0 = u at *
    generalize m.getD i 0 = v at *
    rw [hd] at ih ⊢
    by_cases hlt : v < u
    · rw [if_pos hlt] at ih
      simp (maxSteps := 1000000) (disch := omega) [if_pos, if_neg, wrap_i64, wrap_u8, get_mid, e1, f1, hlt]
      refine run_env ih ?_
      simp
    · rw [if_neg hlt] at ih
      rw [← hself] at ih
      simp (maxSteps := 1000000) (disch := omega) [if_pos, if_neg, wrap_i64, wrap_u8, get_mid, e1, f1, hlt]
      refine run_env ih ?_
      simp
theorem idNodes (root : Int) (all : List KNode) (ks : List Fr) (Q : VX → Env → Prop) (hall : (all.length : Int) ≤ 1048576) : ∀ (rest done : List KNode) (m : List Int) (i c : Int), all = done ++ rest → i = done.length → m.length = all.length → (KNode.us rest : Int) ≤ 1048576 → Small c m → c + rest.length ≤ 100000000000000 → ArgsOk done.length rest →
    Run G A (.exit 0) [(1, .v (.box (KProg.row false ⟨all, root⟩))), (3, .v (.leaf (Kints true (deepNodes done.length m rest)))), (16, .v (.leaf (KNode.sl false all))), (17, .v (.leaf (.int .i64 all.length))), (18, .v (.leaf (.int .i64 all.length))), (19, .v (.leaf (.bool false)))] ks Q →
    Run G A (.loop impl_Depth.l1) [(1, .v (.box (KProg.row false ⟨all, root⟩))), (3, .v (.leaf (Kints true m))), (16, .v (.leaf (KNode.sl false all))), (17, .v (.leaf (.int .i64 all.length))), (18, .v (.leaf (.int .i64 i)))] ks Q := by
  intro rest
  induction rest with
  | nil =>
    intro done m i c hd hi hm hu hs hc hok hq
    have hl : (done.length : Int) = all.length := by rw [hd]; simp
    subst hi
    refine run_loop_at impl_Depth.l1.eq_1 ?_
    rw [hl]
    simp (maxSteps := 1000000) (disch := omega) [if_pos, if_neg, wrap_i64, wrap_u8, get_mid]
    simpa [deepNodes] using hq
  | cons x rest ih =>
    intro done m i c hd hi hm hu hs hc hok hq
    subst hi
    have hal : (all.length : Int) = done.length + (rest.length + 1) := by rw [hd]; simp
    simp only [KNode.us, KNode.w, List.length_cons, Int.natCast_add] at hu hc
    have hx : all[done.length]? = some x := by rw [hd, List.getElem?_append_right (by simp)]; simp
    have hlt : done.length < all.length := by omega
    have hx' : all[done.length]'hlt = x := by rw [List.getElem?_eq_getElem hlt] at hx; exact Option.some.inj hx
    refine run_loop_at impl_Depth.l1.eq_1 ?_
    simp (maxSteps := 1000000) (disch := omega) [if_pos, if_neg, wrap_i64, wrap_u8, hx']
    refine run_env (idArgs all done.length root all.length x _ _ (by omega) (by omega) x.args [] m 0 c rfl rfl (by omega) hs (by omega) hok.1 ?_) ?_
    · have hml := maxArgs_length done.length x.args m
      have hms := maxArgs_small (c := c) done.length x.args m hs (fun a ha => by have := hok.1 a ha; omega)
      have e : deepNodes done.length m (x :: rest) = deepNodes (done.length + 1) (bump (maxArgs done.length m x.args) done.length) rest := rfl
      rw [e] at hq
      generalize maxArgs done.length m x.args = m1 at *
      have hit : done.length < m1.length := by omega
      obtain ⟨f1, f2, f3⟩ := nat_at hms done.length hit
      have ih := ih (done ++ [x]) (bump m1 done.length) (done.length + 1) (c + 1) (by simp [hd]) (by simp) (by rw [bump_length, hml]; omega) (by omega) (small_bump hms _ (by simpa using hit)) (by omega) (by simpa using hok.2)
      unfold bump at ih hq
      simp only [Int.toNat_natCast] at ih hq
      generalize m1.getD done.length 0 = v at *
      simp (maxSteps := 1000000) (disch := omega) [if_pos, if_neg, wrap_i64, wrap_u8, get_mid, f1]
      refine run_env (ih (run_env hq ?_)) ?_
      · simp
      · simp
    · simp
theorem implDepth (p : KProg) (hw : (KProg.w p : Int) ≤ 1048576) : A 37 [.agg (KProg.row false p)] = some ([.leaf (.int .i64 (depthB p))], [.gone]) := by
  have hP := implProgOk p hw
  have hd0 : depthB p = if progB p = true then (deepNodes 0 (List.replicate p.nodes.length 0) p.nodes).getD p.root.toNat 0 else 0 := rfl
  obtain ⟨nodes, root⟩ := p
  simp only [KProg.w, Int.natCast_add] at hw
  refine run_impl_Depth ?_
  cases hk : progB ⟨nodes, root⟩ with
  | false =>
    rw [hk] at hP hd0
    simp (maxSteps := 1000000) (disch := omega) [if_pos, if_neg, wrap_i64, wrap_u8, impl_Depth.b, hP, hd0]
  | true =>
    obtain ⟨hok, hroot, hpos⟩ := progB_ok hk
    rw [hk, if_pos rfl] at hd0
    rw [hk] at hP
    rw [hd0]
    simp only at hok hroot hpos ⊢
    simp (maxSteps := 1000000) (disch := omega) [if_pos, if_neg, wrap_i64, wrap_u8, impl_Depth.b, hP]
    refine run_env (idNodes root nodes _ _ (by omega) nodes [] (List.replicate nodes.length 0) 0 0 rfl rfl (by simp) (by omega) (replicate_small _) (by omega) (by simpa using hok) ?_) ?_
    · have hml := deepNodes_length nodes 0 (List.replicate nodes.length 0)
      simp only [List.length_nil, List.length_replicate] at hml ⊢
      generalize deepNodes 0 (List.replicate nodes.length 0) nodes = m at *
      have hrt : root.toNat < m.length := by omega
      have e1 : m[root.toNat]'hrt = m.getD root.toNat 0 := by rw [List.getD_eq_getElem?_getD, List.getElem?_eq_getElem hrt]; rfl
      have h0 : 0 ≤ root := by omega
      have h1 : root < m.length := by omega
      generalize m.getD root.toNat 0 = v at *
      simp (maxSteps := 1000000) (disch := omega) [if_pos, if_neg, wrap_i64, wrap_u8, e1, h0, h1]
    · simp
end Go.Proofs.YtdoelepflcaijaaDoor.DP
