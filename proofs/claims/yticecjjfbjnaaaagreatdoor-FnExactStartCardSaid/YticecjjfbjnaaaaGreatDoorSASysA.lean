/- Systems: the program's and the reference's tell the same. -/
import Derived.Test.YticecjjfbjnaaaaGreatDoorSAOnceA
import Derived.Test.YticecjjfbjnaaaaGreatDoorSAHeapA
namespace Go.Proofs.YticecjjfbjnaaaaGreatDoor.SA
open Go Go.VS Go.Lib
set_option maxRecDepth 10000
set_option maxHeartbeats 8000000
set_option linter.unusedSimpArgs false
set_option linter.unusedVariables false
theorem once_from : ∀ (l s : List ByteArray), (l.foldlM onceF s).isSome = (l.all (fun x => !decide (x ∈ s)) && onceB l) := by
 have key : ∀ (l s t : List ByteArray), (l.foldlM onceF (s ++ t)).isSome = (l.all (fun x => !decide (x ∈ s)) && (l.foldlM onceF t).isSome) := by
  intro l
  induction l with
  | nil => intro s t; rfl
  | cons x l ih =>
   intro s t
   rw [List.foldlM_cons, List.foldlM_cons, List.all_cons]
   unfold onceF
   by_cases h1 : x ∈ s
   ·simp [h1]
   ·by_cases h2 : x ∈ t
    ·simp [h1, h2]
    ·simp only [List.mem_append, h1, h2, or_self, if_false, decide_false, Bool.not_false, Bool.true_and]
     have := ih s (t ++ [x])
     rw [← List.append_assoc] at this
     exact this
 intro l s
 have := key l s []
 rw [List.append_nil] at this
 exact this
def isZero (v : KValue) : Bool := decide (v.kind = 0) && (decide (v.n = 0) && decide (v.s = ⟨#[]⟩))
theorem ne_zero {v : KValue} (h : ¬ (v.kind = 0 ∧ v.n = 0 ∧ v.s = ⟨#[]⟩)) : (!decide (v.kind = 0) || (!decide (v.n = 0) || !decide (v.s = ⟨#[]⟩))) = true := by
 by_cases a1 : v.kind = 0
 ·by_cases a2 : v.n = 0
  ·have a3 : ¬ v.s = ⟨#[]⟩ := fun e => h ⟨a1, a2, e⟩
   simp [a3]
  ·simp [a2]
 ·simp [a1]
theorem isZero_false {v : KValue} (h : ¬ (v.kind = 0 ∧ v.n = 0 ∧ v.s = ⟨#[]⟩)) : isZero v = false := by
 cases hz : isZero v with
 | false => rfl
 | true => exact absurd (by simpa [isZero] using hz) h
/-- A loop that looks at each one and gathers names. -/
def collect {α : Type} (p : α → Bool) (f : α → ByteArray) (s : List ByteArray) (x : α) : Option (List ByteArray) := if p x = true then some (s ++ [f x]) else none
theorem collect_state {α : Type} (p : α → Bool) (f : α → ByteArray) : ∀ (l : List α) (s : List ByteArray) (r : Option (List ByteArray)), l.foldlM (collect p f) s = r → (l.all p = true → r = some (s ++ l.map f)) ∧ (l.all p = false → r = none)
 | [], s, r, h => by
  rw [← h]
  simp
 | x :: l, s, r, h => by
  rw [List.foldlM_cons] at h
  unfold collect at h
  by_cases hx : p x = true
  ·simp [hx] at h
   have := collect_state p f l (s ++ [f x]) r h
   simp at this ⊢
   simp [hx]
   exact this
  ·simp [hx] at h
   rw [← h]
   have hx : p x = false := by simpa using hx
   simp [hx]
theorem collect_some {α : Type} {p : α → Bool} {f : α → ByteArray} {l : List α} {s r : List ByteArray} (h : l.foldlM (collect p f) s = some r) : l.all p = true ∧ r = s ++ l.map f := by
 have := collect_state p f l s _ h
 cases hl : l.all p with
 | false => have := this.2 hl; cases this
 | true => have := this.1 hl; exact ⟨rfl, Option.some.inj this⟩
theorem collect_none {α : Type} {p : α → Bool} {f : α → ByteArray} {l : List α} {s : List ByteArray} (h : l.foldlM (collect p f) s = none) : l.all p = false := by
 have := collect_state p f l s _ h
 cases hl : l.all p with
 | false => rfl
 | true => have := this.1 hl; cases this
def gather {α : Type} (p : α → Bool) (f : α → ByteArray) (s : List ByteArray) (x : α) : Option (List ByteArray) := if (p x && !decide (f x ∈ s)) = true then some (s ++ [f x]) else none
theorem gather_at {α : Type} (p : α → Bool) (f : α → ByteArray) (s : List ByteArray) (x : α) : gather p f s x = if (p x && !decide (f x ∈ s)) = true then some (s ++ [f x]) else none := rfl
theorem onceF_at (s : List ByteArray) (x : ByteArray) : onceF s x = if x ∈ s then none else some (s ++ [x]) := rfl
theorem gather_fold {α : Type} (p : α → Bool) (f : α → ByteArray) : ∀ (l : List α) (s : List ByteArray), (l.foldlM (gather p f) s).isSome = (l.all p && ((l.map f).foldlM onceF s).isSome)
 | [], s => rfl
 | x :: l, s => by
  rw [List.foldlM_cons, List.all_cons, List.map_cons, List.foldlM_cons]
  rw [gather_at, onceF_at]
  by_cases h1 : f x ∈ s
  ·simp [h1]
  ·cases h2 : p x
   ·simp
   ·simp [h1]
    exact gather_fold p f l _
theorem gather_state {α : Type} (p : α → Bool) (f : α → ByteArray) : ∀ (l : List α) (s r : List ByteArray), l.foldlM (gather p f) s = some r → r = s ++ l.map f
 | [], s, r, h => by
  simp only [List.foldlM_nil] at h
  obtain rfl := Option.some.inj h
  simp
 | x :: l, s, r, h => by
  rw [List.foldlM_cons] at h
  unfold gather at h
  split at h
  ·have := gather_state p f l _ r h
   simpa using this
  ·cases h
/-- A link is right by itself. -/
noncomputable def linkB (n : Int) (names : List ByteArray) (l : KLink) : Bool := !decide (l.name ∈ names) && (within 0 (n - 1) l.inst && isName l.at_)
noncomputable def linkP (n : Int) (l : KLink) : Bool := isName l.name && (within 0 (n - 1) l.inst && isName l.at_)
noncomputable def linksB (n : Int) (names : List ByteArray) (l : List KLink) : Bool := l.all (linkB n names) && (((l.map KLink.name).all isName && onceB (l.map KLink.name)) && decide ((l.length : Int) ≤ 30))
theorem linksB_eq (n : Int) (names : List ByteArray) (l : List KLink) : linksB n names l = ((l.foldlM (gather (linkP n) KLink.name) names).isSome && decide ((l.length : Int) ≤ 30)) := by
 rw [gather_fold, once_from]
 unfold linksB
 have e : (l.all (linkB n names) && (l.map KLink.name).all isName) = (l.all (linkP n) && (l.map KLink.name).all fun x => !decide (x ∈ names)) := by
  rw [Bool.eq_iff_iff]
  simp only [Bool.and_eq_true, List.all_eq_true, List.mem_map, forall_exists_index, and_imp, forall_apply_eq_imp_iff₂, linkB, linkP]
  constructor
  ·rintro ⟨h1, h2⟩
   exact ⟨fun x hx => ⟨h2 x hx, (h1 x hx).2⟩, fun x hx => (h1 x hx).1⟩
  ·rintro ⟨h1, h2⟩
   exact ⟨fun x hx => ⟨h2 x hx, (h1 x hx).2⟩, fun x hx => (h1 x hx).1⟩
 cases h1 : l.all (linkB n names) <;> cases h2 : (l.map KLink.name).all isName <;> cases h3 : l.all (linkP n) <;> cases h4 : ((l.map KLink.name).all fun x => !decide (x ∈ names)) <;> rw [h1, h2, h3, h4] at e <;> first | (cases e; done) | simp
noncomputable def typesB (l : List KType) : Bool := sizesB l && (((l.map KType.name).all isName && onceB (l.map KType.name)) && decide ((l.length : Int) ≤ 8))
noncomputable def instHeadB (i : Int) (x : KInst) : Bool := if i = 0 then decide (x.lib = ⟨#[]⟩) && decide (x.ver = 0) else isName x.lib && within 1 1000 x.ver
noncomputable def instB (y : KSys) (i : Int) (x : KInst) : Bool := instHeadB i x && ((x.vals.all fun v => isZero v || valB y.heap v) && (((x.names.all isName && onceB x.names) && decide ((x.names.length : Int) ≤ 30)) && (decide (x.vals.length = x.names.length) && (linksB y.insts.length x.names x.links && typesB x.types))))
noncomputable def unitB (y : KSys) (u : KUnit) : Bool := within 0 ((y.insts.length : Int) - 1) u.home && progB u.prog
/-- Is there a lambda at a node of a unit? -/
def lamAt (y : KSys) (u n : Int) : Bool := decide (0 ≤ u) && (match y.units[u.toNat]? with
 | some w => decide (0 ≤ n) && (match w.prog.nodes[n.toNat]? with
  | some x => decide (x.kind = 7)
  | none => false)
 | none => false)
def fnB (y : KSys) (c : KCell) : Bool := !decide (c.kind = 2) || lamAt y c.a c.b
/-- Is a system right? -/
noncomputable def sysB (y : KSys) : Bool := within 1 12 y.insts.length && (decide ((y.units.length : Int) ≤ 60) && (decide ((y.out.length : Int) ≤ 40) && (heapB y.heap && (fromB (instB y) 0 y.insts && (y.units.all (unitB y) && y.heap.all (fnB y))))))
theorem links_us : ∀ l : List KLink, strsU (l.map KLink.name) ≤ KLink.us l
 | [] => Nat.le_refl _
 | x :: l => by have := links_us l; simp only [List.map_cons, strsU, KLink.us, KLink.w]; omega
theorem links_at {l : List KLink} {i : Nat} {x : KLink} (h : l[i]? = some x) : KLink.w x ≤ KLink.us l := by
 induction l generalizing i with
 | nil => simp at h
 | cons a l ih =>
  simp only [KLink.us]
  cases i with
  | zero => simp at h; subst h; omega
  | succ i => have := ih (by simpa using h); omega
theorem insts_at {l : List KInst} {i : Nat} {x : KInst} (h : l[i]? = some x) : KInst.w x ≤ KInst.us l := by
 induction l generalizing i with
 | nil => simp at h
 | cons a l ih =>
  simp only [KInst.us]
  cases i with
  | zero => simp at h; subst h; omega
  | succ i => have := ih (by simpa using h); omega
theorem units_at {l : List KUnit} {i : Nat} {x : KUnit} (h : l[i]? = some x) : KUnit.w x ≤ KUnit.us l := by
 induction l generalizing i with
 | nil => simp at h
 | cons a l ih =>
  simp only [KUnit.us]
  cases i with
  | zero => simp at h; subst h; omega
  | succ i => have := ih (by simpa using h); omega
theorem implLinksOk (y : KSys) (x : KInst) (hn : (y.insts.length : Int) ≤ 1048576) (hx : (KInst.w x : Int) ≤ 1048576) : A 170 [.box (KSys.row false y), .agg (KInst.row false x)] = some ([.leaf (.bool (linksB y.insts.length x.names x.links))], [.box (KSys.row false y), .gone]) := by
 obtain ⟨lib, ver, names, vals, links, types⟩ := x
 simp only [KInst.w] at hx
 have hu := links_us links
 have hN := namesOk (links.map KLink.name) 30 (by simp; omega) (by omega)
 rw [namesAll] at hN
 simp only [List.length_map] at hN
 unfold linksB
 simp only
 generalize ((links.map KLink.name).all isName && onceB (links.map KLink.name)) = b at *
 simp only [Kstrs, List.map_map] at hN
 refine run_impl_Sys_linksOk ?_
 simp (maxSteps := 1000000) (disch := omega) [ip, wr, impl_Sys_linksOk.b]
 refine at_foldM (fun e i (s : List ByteArray) => (e.put 11 (.v (.leaf (.int .i64 i)))).put 5 (.v (.leaf (Kstrs true s)))) impl_Sys_linksOk.l0.eq_1 (collect (linkB y.insts.length names) KLink.name) links [] (by simp) (fun s g => ?_) (fun i l s s' hx2 hi hs hf ih => ?_) (fun i l s hx2 hi hs hf g => ?_)
 ·obtain ⟨g1, rfl⟩ := collect_some g
  rw [g1, List.nil_append]
  simp (maxSteps := 1000000) (disch := omega) [ip, wr, hN]
 ·obtain ⟨_, rfl⟩ := collect_some hs
  have ht := take_len hx2
  have hlu := links_at hx2
  simp only [KLink.w] at hlu
  have k1 := sContains names l.name (by omega)
  have k2 := inRange' l.inst 0 ((y.insts.length : Int) - 1)
  have k3 := implIsName l.at_ (by omega)
  unfold collect at hf
  split at hf
  ·rename_i hp
   obtain rfl := (Option.some.inj hf).symm
   simp only [linkB, Bool.and_eq_true, Bool.not_eq_true'] at hp
   rw [hp.1] at k1
   rw [hp.2.1] at k2
   rw [hp.2.2] at k3
   rw [List.nil_append] at ih ⊢
   generalize links.take i = t at *
   simp (maxSteps := 1000000) (disch := omega) [ip, wr, hx2, at_get hx2, k1, k2, k3]
   refine run_env ih ?_
   simp
  ·cases hf
 ·obtain ⟨_, rfl⟩ := collect_some hs
  have ht := take_len hx2
  have hlu := links_at hx2
  simp only [KLink.w] at hlu
  have hbad := collect_none g
  have k1 := sContains names l.name (by omega)
  have k2 := inRange' l.inst 0 ((y.insts.length : Int) - 1)
  have k3 := implIsName l.at_ (by omega)
  rw [hbad]
  rw [List.nil_append]
  unfold collect at hf
  split at hf
  ·cases hf
  ·rename_i hp
   unfold linkB at hp
   generalize links.take i = t at *
   cases p1 : decide (l.name ∈ names) <;> rw [p1] at k1 hp
   ·cases p2 : within 0 ((y.insts.length : Int) - 1) l.inst <;> rw [p2] at k2 hp
    ·simp (maxSteps := 1000000) (disch := omega) [ip, wr, hx2, at_get hx2, k1, k2]
    ·cases p3 : isName l.at_ <;> rw [p3] at k3 hp
     ·simp (maxSteps := 1000000) (disch := omega) [ip, wr, hx2, at_get hx2, k1, k2, k3]
     ·simp at hp
   ·simp (maxSteps := 1000000) (disch := omega) [ip, wr, hx2, at_get hx2, k1]
theorem heap_at' {h : List KCell} (hh : heapB h = true) {j : Nat} {c : KCell} (hj : h[j]? = some c) : cellOkB c = true := by
 have key : ∀ (l : List KCell) (i : Int) (j : Nat) (c : KCell), heapFrom h i l = true → l[j]? = some c → cellAt h (i + j) c = true := by
  intro l
  induction l with
  | nil => intro i j c _ hj; simp at hj
  | cons x l ih =>
   intro i j c hh hj
   simp only [heapFrom, Bool.and_eq_true] at hh
   cases j with
   | zero => simp at hj; subst hj; simpa using hh.1
   | succ j =>
    have := ih (i + 1) j c hh.2 (by simpa using hj)
    have e : i + 1 + (j : Int) = i + ((j + 1 : Nat) : Int) := by omega
    rwa [e] at this
 unfold heapB at hh
 simp only [Bool.and_eq_true] at hh
 have := key h 0 j c hh.2 hj
 unfold cellAt at this
 simp only [Bool.and_eq_true] at this
 exact this.1
theorem fn_ge {c : KCell} (h : cellOkB c = true) (hk : c.kind = 2) : 0 ≤ c.a ∧ 0 ≤ c.b := by
 unfold cellOkB at h
 simp [hk] at h
 exact ⟨h.1.1.1.2, h.1.1.2⟩
noncomputable def valZ (h : List KCell) (v : KValue) : Bool := isZero v || valB h v
theorem sysw {y : KSys} (hw : (KSys.w y : Int) ≤ 1048576) : (y.heap.length : Int) + KCell.us y.heap ≤ 1048576 ∧ (y.insts.length : Int) + KInst.us y.insts ≤ 1048576 ∧ (y.units.length : Int) + KUnit.us y.units ≤ 1048576 ∧ (y.out.length : Int) ≤ 1048576 := by
 simp only [KSys.w] at hw
 refine ⟨by omega, by omega, by omega, by omega⟩
theorem implInstOk (y : KSys) (i : Nat) (x : KInst) (hx : y.insts[i]? = some x) (hw : (KSys.w y : Int) ≤ 1048576) : A 114 [.box (KSys.row false y), .leaf (.int .i64 i)] = some ([.leaf (.bool (instB y i x))], [.box (KSys.row false y), .gone]) := by
 have hxu := insts_at hx
 have hil : i < y.insts.length := (List.getElem?_eq_some_iff.1 hx).1
 obtain ⟨w1, w2, w3, w4⟩ := sysw hw
 have hL := implLinksOk y x (by omega) (by omega)
 have hv := fun (v : KValue) => implValueOk y.heap v (by omega)
 simp only [KInst.w] at hxu
 have hT := implTypesOk x.types (by omega) (by omega)
 have hN := namesOk x.names 30 (by omega) (by omega)
 rw [namesAll] at hN
 have hI := implIsName x.lib (by omega)
 have hR := inRange' x.ver 1 1000
 have hTB : (sizesB x.types && (((x.types.map KType.name).all isName && onceB (x.types.map KType.name)) && decide ((x.types.length : Int) ≤ 8))) = typesB x.types := rfl
 rw [hTB] at hT
 unfold instB
 have hvl : (x.vals.length : Int) ≤ 1048576 := by omega
 have hvu : (KValue.us x.vals : Int) ≤ 1048576 := by omega
 generalize linksB y.insts.length x.names x.links = b1 at *
 generalize typesB x.types = b2 at *
 generalize ((x.names.all isName && onceB x.names) && decide ((x.names.length : Int) ≤ 30)) = b3 at *
 refine run_impl_Sys_instOk ?_
 cases hh : instHeadB i x with
 | false =>
  rcases Nat.eq_zero_or_pos i with rfl | hpos
  ·simp [instHeadB] at hh
   by_cases p1 : x.lib = ⟨#[]⟩
   ·have p2 := hh p1
    simp (maxSteps := 1000000) (disch := omega) [ip, wr, impl_Sys_instOk.b, hx, at_get hx, p1, p2]
   ·simp (maxSteps := 1000000) (disch := omega) [ip, wr, impl_Sys_instOk.b, hx, at_get hx, p1]
  ·have hn : ¬ i = 0 := by omega
   simp [instHeadB, hn] at hh
   cases p1 : isName x.lib with
   | false =>
    rw [p1] at hI
    simp (maxSteps := 1000000) (disch := omega) [ip, wr, impl_Sys_instOk.b, hx, at_get hx, hn, hpos, hI]
   | true =>
    rw [p1] at hI
    rw [hh p1] at hR
    simp (maxSteps := 1000000) (disch := omega) [ip, wr, impl_Sys_instOk.b, hx, at_get hx, hn, hpos, hI, hR]
 | true =>
  rcases Nat.eq_zero_or_pos i with rfl | hpos
  focus
   simp [instHeadB] at hh
   simp only [KInst.row, hh.1, hh.2] at hL
   simp (maxSteps := 1000000) (disch := omega) [ip, wr, impl_Sys_instOk.b, hx, at_get hx, hh.1, hh.2]
  rotate_left
  focus
   have hn : ¬ i = 0 := by omega
   simp [instHeadB, hn] at hh
   rw [hh.1] at hI
   rw [hh.2] at hR
   simp (maxSteps := 1000000) (disch := omega) [ip, wr, impl_Sys_instOk.b, hx, at_get hx, hn, hpos, hI, hR]
  all_goals (
   refine at_all 46 impl_Sys_instOk.l0.eq_1 (valZ y.heap) x.vals (by simp) (fun g => ?_) (fun j v hvx hj hp ih => ?_) (fun j v hvx hj hp g => ?_)
   ·have g' : (x.vals.all fun v => isZero v || valB y.heap v) = true := g
    by_cases q3 : b3 = true
    ·by_cases q4 : x.vals.length = x.names.length
     ·by_cases q1 : b1 = true
      ·simp (maxSteps := 1000000) (disch := omega) [ip, wr, hN, hL, hT, g', q3, q4, q1]
      ·simp (maxSteps := 1000000) (disch := omega) [ip, wr, hN, hL, g', q3, q4, q1]
     ·simp (maxSteps := 1000000) (disch := omega) [ip, wr, hN, g', q3, q4]
    ·simp (maxSteps := 1000000) (disch := omega) [ip, wr, hN, g', q3]
   ·have k0 := vals_at hvx
    have k1 := hv v (by simp only [KValue.w] at k0; omega)
    unfold valZ at hp
    by_cases hz : v.kind = 0 ∧ v.n = 0 ∧ v.s = ⟨#[]⟩
    ·simp (maxSteps := 1000000) (disch := omega) [ip, wr, hvx, at_get hvx, hz]
     refine run_env ih ?_
     simp
    ·have hz' : isZero v = false := isZero_false hz
     rw [hz', Bool.false_or] at hp
     rw [hp] at k1
     have hz2 := ne_zero hz
     simp (maxSteps := 1000000) (disch := omega) [ip, wr, hvx, at_get hvx, hz2, k1]
     refine run_env ih ?_
     simp
   ·have g' : (x.vals.all fun v => isZero v || valB y.heap v) = false := g
    have k0 := vals_at hvx
    have k1 := hv v (by simp only [KValue.w] at k0; omega)
    unfold valZ at hp
    simp only [Bool.or_eq_false_iff] at hp
    rw [hp.2] at k1
    have hz2 := ne_zero (v := v) (fun h => by
     have := hp.1
     simp [isZero, h] at this)
    simp (maxSteps := 1000000) (disch := omega) [ip, wr, hvx, at_get hvx, hz2, k1, g'])
theorem implIsLambda (y : KSys) (u n : Int) (hw : (KSys.w y : Int) ≤ 1048576) : A 115 [.box (KSys.row false y), .leaf (.int .i64 u), .leaf (.int .i64 n)] = some ([.leaf (.bool (lamAt y u n))], [.box (KSys.row false y), .gone, .gone]) := by
 obtain ⟨w1, w2, w3, w4⟩ := sysw hw
 have k1 := inRange' u 0 ((y.units.length : Int) - 1)
 refine run_impl_Sys_isLambda ?_
 by_cases h1 : 0 ≤ u ∧ u < y.units.length
 ·have hul : u.toNat < y.units.length := by omega
  have hx : y.units[u.toNat]? = some y.units[u.toNat] := List.getElem?_eq_getElem hul
  have e1 : within 0 ((y.units.length : Int) - 1) u = true := by simp [within]; omega
  have hxu := units_at hx
  rw [e1] at k1
  generalize y.units[u.toNat] = x at *
  have hl0 : lamAt y u n = (decide (0 ≤ n) && (match x.prog.nodes[n.toNat]? with | some z => decide (z.kind = 7) | none => false)) := by simp [lamAt, hx, h1.1]
  rw [hl0]
  simp only [KUnit.w, KProg.w] at hxu
  have k2 := inRange' n 0 ((x.prog.nodes.length : Int) - 1)
  by_cases h2 : 0 ≤ n ∧ n < x.prog.nodes.length
  ·have hnl : n.toNat < x.prog.nodes.length := by omega
   have hz : x.prog.nodes[n.toNat]? = some x.prog.nodes[n.toNat] := List.getElem?_eq_getElem hnl
   have e2 : within 0 ((x.prog.nodes.length : Int) - 1) n = true := by simp [within]; omega
   rw [e2] at k2
   generalize x.prog.nodes[n.toNat] = z at *
   rw [hz]
   simp only
   simp (maxSteps := 1000000) (disch := omega) [ip, wr, impl_Sys_isLambda.b, k1, k2, hx, at_get hx, hz, at_get hz, h1.1, h2.1]
  ·have e2 : within 0 ((x.prog.nodes.length : Int) - 1) n = false := by simp [within]; omega
   rw [e2] at k2
   have e3 : (decide (0 ≤ n) && (match x.prog.nodes[n.toNat]? with | some x => decide (x.kind = 7) | none => false)) = false := by
    by_cases h0 : 0 ≤ n
    ·rw [List.getElem?_eq_none (by omega)]; simp
    ·simp [h0]
   rw [e3]
   simp (maxSteps := 1000000) (disch := omega) [ip, wr, impl_Sys_isLambda.b, k1, k2, hx, at_get hx, h1.1]
 ·have e1 : within 0 ((y.units.length : Int) - 1) u = false := by simp [within]; omega
  rw [e1] at k1
  have e3 : lamAt y u n = false := by
   unfold lamAt
   by_cases h0 : 0 ≤ u
   ·rw [List.getElem?_eq_none (by omega)]; simp
   ·simp [h0]
  rw [e3]
  simp (maxSteps := 1000000) (disch := omega) [ip, wr, impl_Sys_isLambda.b, k1]
theorem implSysOk (y : KSys) (hw : (KSys.w y : Int) ≤ 1048576) : A 51 [.agg (KSys.row false y)] = some ([.leaf (.bool (sysB y))], [.gone]) := by
 obtain ⟨w1, w2, w3, w4⟩ := sysw hw
 have k1 := inRange' (y.insts.length : Int) 1 12
 have k2 := implHeapOk y.heap w1
 unfold sysB
 refine run_impl_SysOk ?_
 by_cases hall : within 1 12 y.insts.length = true ∧ (y.units.length : Int) ≤ 60 ∧ (y.out.length : Int) ≤ 40 ∧ heapB y.heap = true
 ·obtain ⟨h1, h2, h3, h4⟩ := hall
  rw [h1] at k1 ⊢
  rw [h4] at k2 ⊢
  rw [decide_eq_true h2, decide_eq_true h3]
  simp only [Bool.true_and]
  simp (maxSteps := 1000000) (disch := omega) [ip, wr, impl_SysOk.b, k1, h2, h3, k2]
  refine at_from 34 impl_SysOk.l0.eq_1 (instB y) y.insts (by simp) (fun g => ?_) (fun i x hx hi hp ih => ?_) (fun i x hx hi hp g => ?_)
  ·rw [g]
   simp (maxSteps := 1000000) (disch := omega) [ip, wr, ]
   refine at_all 44 impl_SysOk.l1.eq_1 (unitB y) y.units (by simp) (fun g2 => ?_) (fun i x hx hi hp ih => ?_) (fun i x hx hi hp g2 => ?_)
   ·rw [g2]
    simp (maxSteps := 1000000) (disch := omega) [ip, wr, ]
    refine at_all 66 impl_SysOk.l2.eq_1 (fnB y) y.heap (by simp) (fun g3 => ?_) (fun i x hx hi hp ih => ?_) (fun i x hx hi hp g3 => ?_)
    ·rw [g3]
     simp (maxSteps := 1000000) (disch := omega) [ip, wr, ]
    ·have q1 := implIsLambda y x.a x.b hw
     unfold fnB at hp
     by_cases q2 : x.kind = 2
     ·have q3 : lamAt y x.a x.b = true := by simpa [q2] using hp
      rw [q3] at q1
      simp (maxSteps := 1000000) (disch := omega) [ip, wr, hx, at_get hx, q2, q1]
      refine run_env ih ?_
      simp
     ·simp (maxSteps := 1000000) (disch := omega) [ip, wr, hx, at_get hx, q2]
      refine run_env ih ?_
      simp
    ·have q1 := implIsLambda y x.a x.b hw
     unfold fnB at hp
     simp at hp
     rw [g3]
     rw [hp.2] at q1
     simp (maxSteps := 1000000) (disch := omega) [ip, wr, hx, at_get hx, hp.1, q1]
   ·have hxu := units_at hx
    simp only [KUnit.w] at hxu
    have q1 := inRange' x.home 0 ((y.insts.length : Int) - 1)
    have q2 := implProgOk x.prog (by omega)
    unfold unitB at hp
    simp only [Bool.and_eq_true] at hp
    rw [hp.1] at q1
    rw [hp.2] at q2
    simp (maxSteps := 1000000) (disch := omega) [ip, wr, hx, at_get hx, q1, q2]
    refine run_env ih ?_
    simp
   ·have hxu := units_at hx
    simp only [KUnit.w] at hxu
    have q1 := inRange' x.home 0 ((y.insts.length : Int) - 1)
    have q2 := implProgOk x.prog (by omega)
    rw [g2]
    unfold unitB at hp
    cases p1 : within 0 ((y.insts.length : Int) - 1) x.home with
    | false =>
     rw [p1] at q1
     simp (maxSteps := 1000000) (disch := omega) [ip, wr, hx, at_get hx, q1]
    | true =>
     rw [p1, Bool.true_and] at hp
     rw [p1] at q1
     rw [hp] at q2
     simp (maxSteps := 1000000) (disch := omega) [ip, wr, hx, at_get hx, q1, q2]
  ·have q1 := implInstOk y i x hx hw
   rw [hp] at q1
   simp (maxSteps := 1000000) (disch := omega) [ip, wr, q1]
   refine run_env ih ?_
   simp
  ·have q1 := implInstOk y i x hx hw
   rw [hp] at q1
   rw [g]
   simp (maxSteps := 1000000) (disch := omega) [ip, wr, q1]
 ·have hf : (within 1 12 y.insts.length && (decide ((y.units.length : Int) ≤ 60) && (decide ((y.out.length : Int) ≤ 40) && (heapB y.heap && (fromB (instB y) 0 y.insts && (y.units.all (unitB y) && y.heap.all (fnB y))))))) = false := by
   cases p1 : within 1 12 y.insts.length
   ·simp
   ·by_cases p2 : (y.units.length : Int) ≤ 60
    ·by_cases p3 : (y.out.length : Int) ≤ 40
     ·cases p4 : heapB y.heap
      ·simp
      ·exact absurd ⟨p1, p2, p3, p4⟩ hall
     ·simp [p3]
    ·simp [p2]
  rw [hf]
  cases p1 : within 1 12 y.insts.length <;> rw [p1] at k1
  ·simp (maxSteps := 1000000) (disch := omega) [ip, wr, impl_SysOk.b, k1]
  ·by_cases p2 : (y.units.length : Int) ≤ 60
   ·by_cases p3 : (y.out.length : Int) ≤ 40
    ·cases p4 : heapB y.heap <;> rw [p4] at k2
     ·simp (maxSteps := 1000000) (disch := omega) [ip, wr, impl_SysOk.b, k1, p2, p3, k2]
     ·exact absurd ⟨p1, p2, p3, p4⟩ hall
    ·simp (maxSteps := 1000000) (disch := omega) [ip, wr, impl_SysOk.b, k1, p2, p3]
   ·simp (maxSteps := 1000000) (disch := omega) [ip, wr, impl_SysOk.b, k1, p2]
end Go.Proofs.YticecjjfbjnaaaaGreatDoor.SA
