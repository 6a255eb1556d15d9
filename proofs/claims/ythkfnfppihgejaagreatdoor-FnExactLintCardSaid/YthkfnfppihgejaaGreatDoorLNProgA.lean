/- Programs: the program's and the reference's tell the same. -/
import Derived.Test.YthkfnfppihgejaaGreatDoorLNNodeC
namespace Go.Proofs.YthkfnfppihgejaaGreatDoor.LN
open Go Go.VS Go.Lib
set_option maxRecDepth 10000
set_option maxHeartbeats 8000000
set_option linter.unusedSimpArgs false
set_option linter.unusedVariables false
/-- One more at a place. -/
def bump (m : List Int) (a : Int) : List Int := m.set a.toNat (m.getD a.toNat 0 + 1)
/-- The counts behind a node's arguments, if each is the number of a node ahead of it. -/
def countArgs (i : Int) : List Int → List Int → Option (List Int)
 | m, [] => some m
 | m, a :: l => if 0 ≤ a ∧ a < i then countArgs i (bump m a) l else none
noncomputable def countNodes : Int → List Int → List KNode → Option (List Int)
 | _, m, [] => some m
 | i, m, x :: xs => if nodeB x = true then (match countArgs i m x.args with
  | some m' => countNodes (i + 1) m' xs
  | none => none) else none
def Small (c : Int) (m : List Int) : Prop := ∀ v ∈ m, 0 ≤ v ∧ v ≤ c
theorem bump_length (m : List Int) (a : Int) : (bump m a).length = m.length := by simp [bump]
theorem small_bump {c : Int} {m : List Int} (h : Small c m) (a : Int) (ha : a.toNat < m.length) : Small (c + 1) (bump m a) := by
 intro v hv
 rcases List.mem_or_eq_of_mem_set hv with hv | rfl
 ·have := h v hv; omega
 ·have := h (m.getD a.toNat 0) (by rw [List.getD_eq_getElem?_getD, List.getElem?_eq_getElem ha]; exact List.getElem_mem ha)
  omega
theorem at_small {c : Int} {m : List Int} (h : Small c m) (a : Int) (ha : a.toNat < m.length) : m[a.toNat]? = some (m.getD a.toNat 0) ∧ 0 ≤ m.getD a.toNat 0 ∧ m.getD a.toNat 0 ≤ c := by
 have e : m[a.toNat]? = some (m.getD a.toNat 0) := by rw [List.getD_eq_getElem?_getD, List.getElem?_eq_getElem ha]; rfl
 exact ⟨e, h _ (List.mem_of_getElem? e)⟩
theorem countArgs_length (i : Int) : ∀ (l m m' : List Int), countArgs i m l = some m' → m'.length = m.length
 | [], m, m', h => by simp only [countArgs, Option.some.injEq] at h; rw [h]
 | a :: l, m, m', h => by
  simp only [countArgs] at h
  split at h
  ·have := countArgs_length i l _ _ h
   rw [bump_length] at this
   exact this
  ·cases h
theorem countArgs_small (i : Int) : ∀ (l m m' : List Int) (c : Int), countArgs i m l = some m' → i ≤ m.length → Small c m → Small (c + l.length) m'
 | [], m, m', c, h, _, hs => by simp only [countArgs, Option.some.injEq] at h; subst h; simpa using hs
 | a :: l, m, m', c, h, hi, hs => by
  simp only [countArgs] at h
  split at h
  ·rename_i ha
   have := countArgs_small i l _ _ (c + 1) h (by rw [bump_length]; exact hi) (small_bump hs a (by omega))
   rw [List.length_cons]
   have e : c + 1 + (l.length : Int) = c + ((l.length + 1 : Nat) : Int) := by omega
   rw [← e]
   exact this
  ·cases h
theorem countArgs_above (i : Int) (j : Nat) (hj : i ≤ j) : ∀ (l m m' : List Int), countArgs i m l = some m' → m'.getD j 0 = m.getD j 0
 | [], m, m', h => by simp only [countArgs, Option.some.injEq] at h; rw [h]
 | a :: l, m, m', h => by
  simp only [countArgs] at h
  split at h
  ·rw [countArgs_above i j hj l _ _ h]
   unfold bump
   have hne : a.toNat ≠ j := by omega
   simp only [List.getD_eq_getElem?_getD]
   rw [List.getElem?_set_ne hne]
  ·cases h
theorem countNodes_above (j : Nat) : ∀ (l : List KNode) (i : Int) (m m' : List Int), i + l.length ≤ (j : Int) + 1 → countNodes i m l = some m' → m'.getD j 0 = m.getD j 0
 | [], i, m, m', _, h => by simp only [countNodes, Option.some.injEq] at h; rw [h]
 | x :: l, i, m, m', hj, h => by
  simp only [List.length_cons] at hj
  simp only [countNodes] at h
  split at h
  ·split at h
   ·rename_i m1 h1
    rw [countNodes_above j l (i + 1) m1 m' (by omega) h]
    exact countArgs_above i j (by omega) _ _ _ h1
   ·cases h
  ·cases h
/-- Is a program right? -/
noncomputable def progB (p : KProg) : Bool := within 1 400 p.nodes.length && (decide (p.root = (p.nodes.length : Int) - 1) && (match countNodes 0 (List.replicate p.nodes.length 0) p.nodes with
 | some m => (m.take (p.nodes.length - 1)).all fun v => decide (v = 1)
 | none => false))
theorem spArgs (pre post : List KNode) (root : Int) (x : KNode) (ks : List Fr) (Q : VX → Env → Prop) (hn : (pre.length : Int) + (post.length + 1) ≤ 1048576) (hq0 : (x.args.length : Int) ≤ 1048576) : ∀ (rest done m : List Int) (k c : Int), x.args = done ++ rest → k = done.length → (m.length : Int) = pre.length + (post.length + 1) → Small c m → c + rest.length ≤ 1000000000000000 →
  (∀ m', countArgs pre.length m rest = some m' → Run G A (.exit 2) [(1, .v (.box (KProg.row false ⟨pre ++ x :: post, root⟩))), (3, .v (.leaf (Kints true m'))), (4, .v (.leaf (.int .i64 pre.length))), (5, .v (.leaf (.int .i64 x.args.length))), (48, .v (.leaf (.bool false)))] ks Q) →
  (countArgs pre.length m rest = none → Run G A .ret [(2, .v (.leaf (.bool false)))] ks Q) →
  Run G A (.loop spec_ProgOk.l0) [(1, .v (.box (KProg.row false ⟨pre ++ x :: post, root⟩))), (3, .v (.leaf (Kints true m))), (4, .v (.leaf (.int .i64 pre.length))), (5, .v (.leaf (.int .i64 k)))] ks Q := by
 intro rest
 induction rest with
 | nil =>
  intro done m k c hd hk hm hs hc hq hr
  have hl : (done.length : Int) = x.args.length := by rw [hd]; simp
  subst hk
  refine run_loop_at spec_ProgOk.l0.eq_1 ?_
  have hq := hq m rfl
  rw [hl]
  simp (maxSteps := 1000000) (disch := omega) [ip, wr, get_mid]
  simpa using hq
 | cons a rest ih =>
  intro done m k c hd hk hm hs hc hq hr
  have hl : (x.args.length : Int) = done.length + (rest.length + 1) := by rw [hd]; simp
  have hg : x.args[done.length]? = some a := by rw [hd, List.getElem?_append_right (by simp)]; simp
  simp only [List.length_cons] at hc
  subst hk
  refine run_loop_at spec_ProgOk.l0.eq_1 ?_
  by_cases ha0 : a < 0
  ·have hr := hr (by simp only [countArgs]; rw [if_neg (by omega)])
   simp (maxSteps := 1000000) (disch := omega) [ip, wr, get_mid, hd]
   exact hr
  ·by_cases hai : (pre.length : Int) ≤ a
   ·have hr := hr (by simp only [countArgs]; rw [if_neg (by omega)])
    simp (maxSteps := 1000000) (disch := omega) [ip, wr, get_mid, hd]
    exact hr
   ·have hat : a.toNat < m.length := by omega
    obtain ⟨e1, e2, e3⟩ := at_small hs a hat
    have ec : countArgs pre.length m (a :: rest) = countArgs pre.length (bump m a) rest := by simp only [countArgs]; rw [if_pos (by omega)]
    rw [ec] at hq hr
    have ih := ih (done ++ [a]) (bump m a) (done.length + 1) (c + 1) (by rw [hd]; simp) (by simp) (by rw [bump_length]; exact hm) (small_bump hs a hat) (by omega) hq hr
    unfold bump at ih
    have e4 : m[a.toNat]'hat = m.getD a.toNat 0 := by rw [List.getElem?_eq_getElem hat] at e1; exact Option.some.inj e1
    generalize m.getD a.toNat 0 = v at *
    simp (maxSteps := 1000000) (disch := omega) [ip, wr, get_mid, hd, e1, e4]
    refine run_env ih ?_
    simp
theorem spNodes (root : Int) (ks : List Fr) (Q : VX → Env → Prop) : ∀ (rest done : List KNode) (m : List Int) (i c : Int), i = done.length → (m.length : Int) = done.length + rest.length → (done.length : Int) + rest.length ≤ 1048576 → (KNode.us rest : Int) ≤ 1048576 → Small c m → c + KNode.us rest ≤ 100000000000000 →
  (∀ m', countNodes i m rest = some m' → m'.length = m.length → Small (c + KNode.us rest) m' → Run G A (.exit 0) [(1, .v (.box (KProg.row false ⟨done ++ rest, root⟩))), (3, .v (.leaf (Kints true m'))), (4, .v (.leaf (.int .i64 (done.length + rest.length)))), (30, .v (.leaf (.bool false)))] ks Q) →
  (countNodes i m rest = none → Run G A .ret [(2, .v (.leaf (.bool false)))] ks Q) →
  Run G A (.loop spec_ProgOk.l1) [(1, .v (.box (KProg.row false ⟨done ++ rest, root⟩))), (3, .v (.leaf (Kints true m))), (4, .v (.leaf (.int .i64 i)))] ks Q := by
 intro rest
 induction rest with
 | nil =>
  intro done m i c hi hm hl hu hs hc hq hr
  subst hi
  refine run_loop_at spec_ProgOk.l1.eq_1 ?_
  have hq := hq m rfl rfl (by simpa [KNode.us] using hs)
  simp (maxSteps := 1000000) (disch := omega) [ip, wr, get_mid]
  simpa using hq
 | cons x rest ih =>
  intro done m i c hi hm hl hu hs hc hq hr
  subst hi
  simp only [KNode.us, KNode.w, List.length_cons, Int.natCast_add] at hm hl hu hc hq
  have hN := l3Node x (by omega) (by omega) (by omega)
  refine run_loop_at spec_ProgOk.l1.eq_1 ?_
  cases hk : nodeB x with
  | false =>
   rw [hk] at hN
   have hr := hr (by simp only [countNodes]; rw [if_neg (by simp [hk])])
   simp (maxSteps := 1000000) (disch := omega) [ip, wr, get_mid, hN]
   exact hr
  | true =>
   rw [hk] at hN
   simp (maxSteps := 1000000) (disch := omega) [ip, wr, get_mid, hN]
   refine run_env (spArgs done rest root x _ _ (by omega) (by omega) x.args [] m 0 c rfl rfl (by omega) hs (by omega) (fun m' hm' => ?_) (fun hm' => ?_)) ?_
   ·have e : countNodes done.length m (x :: rest) = countNodes (done.length + 1) m' rest := by simp only [countNodes]; rw [if_pos hk, hm']
    rw [e] at hq hr
    have hml := countArgs_length _ _ _ _ hm'
    have hms := countArgs_small _ _ _ _ c hm' (by omega) hs
    simp (maxSteps := 1000000) (disch := omega) [ip, wr, get_mid]
    refine run_env (ih (done ++ [x]) m' (done.length + 1) (c + x.args.length) (by simp) (by rw [hml]; simp; omega) (by simp; omega) (by omega) hms (by omega) (fun m2 h2 h3 h4 => ?_) hr) ?_
    ·refine run_env (hq m2 h2 (by omega) ?_) ?_
     ·intro v hv
      have := h4 v hv
      omega
     ·simp
      omega
    ·simp
   ·have e : countNodes done.length m (x :: rest) = none := by simp only [countNodes]; rw [if_pos hk, hm']
    have hr := hr e
    simp (maxSteps := 1000000) (disch := omega) [ip, wr, ]
    exact hr
   ·simp
theorem spOnes (z : Int) (ks : List Fr) (Q : VX → Env → Prop) : ∀ (rest done : List Int) (i : Int), i = done.length → (done.length : Int) + rest.length ≤ 1048576 →
  ((rest.all fun v => decide (v = 1)) = true → Run G A (.exit 4) [(3, .v (.leaf (Kints true (done ++ rest ++ [z])))), (7, .v (.leaf (.int .i64 (done.length + rest.length)))), (79, .v (.leaf (.bool false)))] ks Q) →
  ((rest.all fun v => decide (v = 1)) = false → Run G A .ret [(2, .v (.leaf (.bool false)))] ks Q) →
  Run G A (.loop spec_ProgOk.l2) [(3, .v (.leaf (Kints true (done ++ rest ++ [z])))), (7, .v (.leaf (.int .i64 i)))] ks Q := by
 intro rest
 induction rest with
 | nil =>
  intro done i hi hl hq hr
  subst hi
  refine run_loop_at spec_ProgOk.l2.eq_1 ?_
  have hq := hq rfl
  simp (maxSteps := 1000000) (disch := omega) [ip, wr, get_mid]
  simpa using hq
 | cons x rest ih =>
  intro done i hi hl hq hr
  subst hi
  simp only [List.length_cons] at hl
  refine run_loop_at spec_ProgOk.l2.eq_1 ?_
  by_cases hx : x = 1
  ·have ih := ih (done ++ [x]) (done.length + 1) (by simp) (by simp; omega) (fun h => run_env (hq (by simp [hx]; simpa using h)) (by simp; omega)) (fun h => hr (by simp [hx]; simpa using h))
   simp (maxSteps := 1000000) (disch := omega) [ip, wr, get_mid, hx]
   refine run_env ih ?_
   simp [hx]
  ·have hr := hr (by simp [hx])
   simp (maxSteps := 1000000) (disch := omega) [ip, wr, get_mid, hx]
   exact hr
theorem replicate_small (n : Nat) : Small 0 (List.replicate n 0) := by
 intro v hv
 obtain ⟨_, rfl⟩ := List.mem_replicate.1 hv
 omega
theorem specProgOk (p : KProg) (hw : (KProg.w p : Int) ≤ 1048576) : A 51 [.agg (KProg.row false p)] = some ([.leaf (.bool (progB p))], [.gone]) := by
 obtain ⟨nodes, root⟩ := p
 simp only [KProg.w, Int.natCast_add] at hw
 refine run_spec_ProgOk ?_
 have hin := l1In' nodes.length 1 400
 cases hk : within 1 400 nodes.length with
 | false =>
  rw [hk] at hin
  simp (maxSteps := 1000000) (disch := omega) [ip, wr, spec_ProgOk.b, progB, hin, hk]
 | true =>
  rw [hk] at hin
  have hpos : 1 ≤ nodes.length := by
   unfold within at hk
   simp at hk
   omega
  by_cases hr : root = (nodes.length : Int) - 1
  ·simp (maxSteps := 1000000) (disch := omega) [ip, wr, spec_ProgOk.b, hin, ← hr]
   refine run_env (spNodes root _ _ nodes [] (List.replicate nodes.length 0) 0 0 rfl (by simp) (by simp; omega) (by omega) (replicate_small _) (by omega) (fun m' h1 h2 h3 => ?_) (fun h1 => ?_)) ?_
   ·obtain ⟨l, z, rfl⟩ : ∃ l z, m' = l ++ [z] := by
     rcases List.eq_nil_or_concat m' with rfl | ⟨l, z, rfl⟩
     ·simp at h2; omega
     ·exact ⟨l, z, by simp⟩
    simp at h2
    have hpb : progB ⟨nodes, root⟩ = l.all fun v => decide (v = 1) := by
     unfold progB
     simp only
     rw [hk, decide_eq_true hr, h1, show nodes.length - 1 = l.length from by omega]
     simp
    rw [hpb]
    simp (maxSteps := 1000000) (disch := omega) [ip, wr, get_mid]
    refine run_env (spOnes z _ _ l [] 0 rfl (by simp; omega) (fun g => ?_) (fun g => ?_)) ?_
    ·simp (maxSteps := 1000000) (disch := omega) [ip, wr, g]
    ·simp (maxSteps := 1000000) (disch := omega) [ip, wr, g]
    ·simp
   ·have hpb : progB ⟨nodes, root⟩ = false := by
     unfold progB
     simp only
     rw [h1]
     simp
    simp (maxSteps := 1000000) (disch := omega) [ip, wr, hpb]
   ·simp
  ·simp (maxSteps := 1000000) (disch := omega) [ip, wr, spec_ProgOk.b, progB, hin, hk, hr]
theorem ipArgs (nodes : List KNode) (i root last k32 : Int) (x : KNode) (ks : List Fr) (Q : VX → Env → Prop) (hi0 : 0 ≤ i) (hi1 : i ≤ 1048576) (hq0 : (x.args.length : Int) ≤ 1048576) : ∀ (rest done m : List Int) (k c : Int), x.args = done ++ rest → k = done.length → i ≤ m.length → Small c m → c + rest.length ≤ 1000000000000000 →
  (∀ m', countArgs i m rest = some m' → Run G A (.exit 2) [(1, .v (.box (KProg.row false ⟨nodes, root⟩))), (3, .v (.leaf (.int .i64 last))), (4, .v (.leaf (Kints true m'))), (5, .v (.leaf (.int .i64 i))), (6, .v (.box (KNode.row false x))), (31, .v (.leaf (KNode.sl false nodes))), (32, .v (.leaf (.int .i64 k32))), (33, .v (.leaf (.int .i64 i))), (42, .v (.leaf (Kints false x.args))), (43, .v (.leaf (.int .i64 x.args.length))), (44, .v (.leaf (.int .i64 x.args.length))), (45, .v (.leaf (.bool false)))] ks Q) →
  (countArgs i m rest = none → Run G A .ret [(2, .v (.leaf (.bool false)))] ks Q) →
  Run G A (.loop impl_ProgOk.l0) [(1, .v (.box (KProg.row false ⟨nodes, root⟩))), (3, .v (.leaf (.int .i64 last))), (4, .v (.leaf (Kints true m))), (5, .v (.leaf (.int .i64 i))), (6, .v (.box (KNode.row false x))), (31, .v (.leaf (KNode.sl false nodes))), (32, .v (.leaf (.int .i64 k32))), (33, .v (.leaf (.int .i64 i))), (42, .v (.leaf (Kints false x.args))), (43, .v (.leaf (.int .i64 x.args.length))), (44, .v (.leaf (.int .i64 k)))] ks Q := by
 intro rest
 induction rest with
 | nil =>
  intro done m k c hd hk hm hs hc hq hr
  have hl : (done.length : Int) = x.args.length := by rw [hd]; simp
  subst hk
  refine run_loop_at impl_ProgOk.l0.eq_1 ?_
  have hq := hq m rfl
  rw [hl]
  simp (maxSteps := 1000000) (disch := omega) [ip, wr, get_mid]
  simpa using hq
 | cons a rest ih =>
  intro done m k c hd hk hm hs hc hq hr
  have hl : (x.args.length : Int) = done.length + (rest.length + 1) := by rw [hd]; simp
  simp only [List.length_cons] at hc
  subst hk
  have hin := inRange a 0 (i - 1)
  refine run_loop_at impl_ProgOk.l0.eq_1 ?_
  by_cases ha : 0 ≤ a ∧ a ≤ i - 1
  ·rw [decide_eq_true ha] at hin
   have hat : a.toNat < m.length := by omega
   obtain ⟨e1, e2, e3⟩ := at_small hs a hat
   have ec : countArgs i m (a :: rest) = countArgs i (bump m a) rest := by simp only [countArgs]; rw [if_pos (by omega)]
   rw [ec] at hq hr
   have ih := ih (done ++ [a]) (bump m a) (done.length + 1) (c + 1) (by rw [hd]; simp) (by simp) (by rw [bump_length]; exact hm) (small_bump hs a hat) (by omega) hq hr
   unfold bump at ih
   have e4 : m[a.toNat]'hat = m.getD a.toNat 0 := by rw [List.getElem?_eq_getElem hat] at e1; exact Option.some.inj e1
   generalize m.getD a.toNat 0 = v at *
   rw [hd] at ih ⊢
   simp (maxSteps := 1000000) (disch := omega) [ip, wr, get_mid, hin, e1, e4]
   refine run_env ih ?_
   simp
  ·rw [decide_eq_false ha] at hin
   have hr := hr (by simp only [countArgs]; rw [if_neg (by omega)])
   rw [hd]
   simp (maxSteps := 1000000) (disch := omega) [ip, wr, get_mid, hin]
   exact hr
theorem ipNodes (root last : Int) (all : List KNode) (ks : List Fr) (Q : VX → Env → Prop) (hall : (all.length : Int) ≤ 1048576) : ∀ (rest done : List KNode) (m : List Int) (i c : Int), all = done ++ rest → i = done.length → m.length = all.length → (KNode.us rest : Int) ≤ 1048576 → Small c m → c + KNode.us rest ≤ 100000000000000 →
  (∀ m', countNodes i m rest = some m' → m'.length = m.length → Run G A (.exit 0) [(1, .v (.box (KProg.row false ⟨all, root⟩))), (3, .v (.leaf (.int .i64 last))), (4, .v (.leaf (Kints true m'))), (31, .v (.leaf (KNode.sl false all))), (32, .v (.leaf (.int .i64 all.length))), (33, .v (.leaf (.int .i64 all.length))), (34, .v (.leaf (.bool false)))] ks Q) →
  (countNodes i m rest = none → Run G A .ret [(2, .v (.leaf (.bool false)))] ks Q) →
  Run G A (.loop impl_ProgOk.l1) [(1, .v (.box (KProg.row false ⟨all, root⟩))), (3, .v (.leaf (.int .i64 last))), (4, .v (.leaf (Kints true m))), (31, .v (.leaf (KNode.sl false all))), (32, .v (.leaf (.int .i64 all.length))), (33, .v (.leaf (.int .i64 i)))] ks Q := by
 intro rest
 induction rest with
 | nil =>
  intro done m i c hd hi hm hu hs hc hq hr
  subst hi hd
  refine run_loop_at impl_ProgOk.l1.eq_1 ?_
  have hq := hq m rfl rfl
  simp (maxSteps := 1000000) (disch := omega) [ip, wr, get_mid]
  simpa using hq
 | cons x rest ih =>
  intro done m i c hd hi hm hu hs hc hq hr
  have ih := ih (done ++ [x])
  subst hi
  have hal : (all.length : Int) = done.length + (rest.length + 1) := by rw [hd]; simp
  simp only [KNode.us, KNode.w, Int.natCast_add] at hu hc
  have hN := nodeOk x (by omega) (by omega) (by omega)
  have hx : all[done.length]? = some x := by rw [hd, List.getElem?_append_right (by simp)]; simp
  have hlt : done.length < all.length := by omega
  have hx' : all[done.length]'hlt = x := by rw [List.getElem?_eq_getElem hlt] at hx; exact Option.some.inj hx
  refine run_loop_at impl_ProgOk.l1.eq_1 ?_
  cases hk : nodeB x with
  | false =>
   rw [hk] at hN
   have hr := hr (by simp only [countNodes]; rw [if_neg (by simp [hk])])
   simp (maxSteps := 1000000) (disch := omega) [ip, wr, hx', hN]
   exact hr
  | true =>
   rw [hk] at hN
   simp (maxSteps := 1000000) (disch := omega) [ip, wr, hx', hN]
   refine run_env (ipArgs all done.length root last all.length x _ _ (by omega) (by omega) (by omega) x.args [] m 0 c rfl rfl (by omega) hs (by omega) (fun m' hm' => ?_) (fun hm' => ?_)) ?_
   ·have e : countNodes done.length m (x :: rest) = countNodes (done.length + 1) m' rest := by simp only [countNodes]; rw [if_pos hk, hm']
    rw [e] at hq hr
    have hml := countArgs_length _ _ _ _ hm'
    have hms := countArgs_small _ _ _ _ c hm' (by omega) hs
    have ih := ih m' (done.length + 1) (c + x.args.length) (by rw [hd]; simp) (by simp) (by omega) (by omega) hms (by omega) (fun m2 h2 h3 => hq m2 h2 (by omega)) hr
    simp (maxSteps := 1000000) (disch := omega) [ip, wr, get_mid]
    refine run_env ih ?_
    simp
   ·have e : countNodes done.length m (x :: rest) = none := by simp only [countNodes]; rw [if_pos hk, hm']
    have hr := hr e
    simp (maxSteps := 1000000) (disch := omega) [ip, wr, ]
    exact hr
   ·simp
theorem freezeRR_append : ∀ a b : List (List L), freezeRR (a ++ b) = freezeRR a ++ freezeRR b
 | [], b => rfl
 | x :: a, b => by simp only [List.cons_append, freezeRR, freezeRR_append a b]
theorem ipOnes (last : Int) (all : List Int) (s4 : L) (ks : List Fr) (Q : VX → Env → Prop) (hall : (all.length : Int) ≤ 1048576) : ∀ (rest done : List Int) (i : Int), all = done ++ rest → i = done.length →
  ((rest.all fun v => decide (v = 1)) = true → Run G A (.exit 4) [(3, .v (.leaf (.int .i64 last))), (4, .v (.leaf s4)), (63, .v (.leaf (Kints false all))), (64, .v (.leaf (.int .i64 all.length))), (65, .v (.leaf (.int .i64 all.length))), (66, .v (.leaf (.bool false)))] ks Q) →
  ((rest.all fun v => decide (v = 1)) = false → Run G A .ret [(2, .v (.leaf (.bool false)))] ks Q) →
  Run G A (.loop impl_ProgOk.l2) [(3, .v (.leaf (.int .i64 last))), (4, .v (.leaf s4)), (63, .v (.leaf (Kints false all))), (64, .v (.leaf (.int .i64 all.length))), (65, .v (.leaf (.int .i64 i)))] ks Q := by
 intro rest
 induction rest with
 | nil =>
  intro done i hd hi hq hr
  have hq := hq rfl
  have hl : (done.length : Int) = all.length := by rw [hd]; simp
  subst hi
  rw [hl]
  refine run_loop_at impl_ProgOk.l2.eq_1 ?_
  simp (maxSteps := 1000000) (disch := omega) [ip, wr, get_mid]
  simpa using hq
 | cons x rest ih =>
  intro done i hd hi hq hr
  subst hi
  have hal : (all.length : Int) = done.length + (rest.length + 1) := by rw [hd]; simp
  have hx : all[done.length]? = some x := by rw [hd, List.getElem?_append_right (by simp)]; simp
  have hlt : done.length < all.length := by omega
  have hx' : all[done.length]'hlt = x := by rw [List.getElem?_eq_getElem hlt] at hx; exact Option.some.inj hx
  refine run_loop_at impl_ProgOk.l2.eq_1 ?_
  by_cases h1 : x = 1
  ·have ih := ih (done ++ [x]) (done.length + 1) (by simp [hd]) (by simp) (fun h => hq (by simp [h1]; simpa using h)) (fun h => hr (by simp [h1]; simpa using h))
   simp (maxSteps := 1000000) (disch := omega) [ip, wr, hx', h1]
   exact ih
  ·have hr := hr (by simp [h1])
   simp (maxSteps := 1000000) (disch := omega) [ip, wr, hx', h1]
   exact hr
theorem implProgOk (p : KProg) (hw : (KProg.w p : Int) ≤ 1048576) : A 64 [.agg (KProg.row false p)] = some ([.leaf (.bool (progB p))], [.gone]) := by
 obtain ⟨nodes, root⟩ := p
 simp only [KProg.w, Int.natCast_add] at hw
 refine run_impl_ProgOk ?_
 have hin := inRange' nodes.length 1 400
 cases hk : within 1 400 nodes.length with
 | false =>
  rw [hk] at hin
  simp (maxSteps := 1000000) (disch := omega) [ip, wr, impl_ProgOk.b, progB, hin, hk]
 | true =>
  rw [hk] at hin
  have hpos : 1 ≤ nodes.length := by
   unfold within at hk
   simp at hk
   omega
  by_cases hr : root = (nodes.length : Int) - 1
  ·simp (maxSteps := 1000000) (disch := omega) [ip, wr, impl_ProgOk.b, hin, ← hr]
   refine run_env (ipNodes root root nodes _ _ (by omega) nodes [] (List.replicate nodes.length 0) 0 0 rfl rfl (by simp) (by omega) (replicate_small _) (by omega) (fun m' h1 h2 => ?_) (fun h1 => ?_)) ?_
   ·have h4 := countNodes_above (nodes.length - 1) nodes 0 _ _ (by omega) h1
    obtain ⟨l, z, rfl⟩ : ∃ l z, m' = l ++ [z] := by
     rcases List.eq_nil_or_concat m' with rfl | ⟨l, z, rfl⟩
     ·simp at h2; omega
     ·exact ⟨l, z, by simp⟩
    simp at h2
    have hz : z = 0 := by
     rw [show nodes.length - 1 = l.length from by omega] at h4
     simp only [List.getD_eq_getElem?_getD] at h4
     rw [List.getElem?_append_right (by simp), List.getElem?_replicate_of_lt (by omega)] at h4
     simpa using h4
    subst hz
    have hpb : progB ⟨nodes, root⟩ = l.all fun v => decide (v = 1) := by
     unfold progB
     simp only
     rw [hk, decide_eq_true hr, h1, show nodes.length - 1 = l.length from by omega]
     simp
    rw [hpb]
    have hrl : root = l.length := by omega
    subst hrl
    simp (maxSteps := 1000000) (disch := omega) [ip, wr, get_mid, take_mid, freezeRR_append, freezeRR, freezeR, L.freeze]
    refine run_env (ipOnes l.length l (.sl false 1 (l.map (fun n => [L.int .i64 n]) ++ [[L.int .i64 0]])) _ _ (by omega) l [] 0 rfl rfl (fun g => ?_) (fun g => ?_)) ?_
    ·simp (maxSteps := 1000000) (disch := omega) [ip, wr, g, get_mid]
    ·simp (maxSteps := 1000000) (disch := omega) [ip, wr, g]
    ·simp
   ·have hpb : progB ⟨nodes, root⟩ = false := by
     unfold progB
     simp only
     rw [h1]
     simp
    simp (maxSteps := 1000000) (disch := omega) [ip, wr, hpb]
   ·simp
  ·simp (maxSteps := 1000000) (disch := omega) [ip, wr, impl_ProgOk.b, progB, hin, hk, hr]
def ArgsOk : Int → List KNode → Prop
 | _, [] => True
 | i, x :: xs => (∀ a ∈ x.args, 0 ≤ a ∧ a < i) ∧ ArgsOk (i + 1) xs
theorem countArgs_ok (i : Int) : ∀ (l m m' : List Int), countArgs i m l = some m' → ∀ a ∈ l, 0 ≤ a ∧ a < i
 | [], m, m', h, a, ha => by cases ha
 | b :: l, m, m', h, a, ha => by
  simp only [countArgs] at h
  split at h
  ·rename_i hb
   rcases List.mem_cons.1 ha with rfl | ha
   ·exact hb
   ·exact countArgs_ok i l _ _ h a ha
  ·cases h
theorem countNodes_ok : ∀ (l : List KNode) (i : Int) (m m' : List Int), countNodes i m l = some m' → ArgsOk i l
 | [], i, m, m', h => trivial
 | x :: l, i, m, m', h => by
  simp only [countNodes] at h
  split at h
  ·split at h
   ·rename_i m1 h1
    exact ⟨countArgs_ok i _ _ _ h1, countNodes_ok l _ _ _ h⟩
   ·cases h
  ·cases h
theorem progB_ok {p : KProg} (h : progB p = true) : ArgsOk 0 p.nodes ∧ p.root = (p.nodes.length : Int) - 1 ∧ 1 ≤ p.nodes.length := by
 unfold progB at h
 simp only [Bool.and_eq_true, decide_eq_true_eq] at h
 obtain ⟨h1, h2, h3⟩ := h
 refine ⟨?_, h2, ?_⟩
 ·split at h3
  ·rename_i m hm
   exact countNodes_ok _ _ _ _ hm
  ·cases h3
 ·unfold within at h1
  simp at h1
  omega
end Go.Proofs.YthkfnfppihgejaaGreatDoor.LN
