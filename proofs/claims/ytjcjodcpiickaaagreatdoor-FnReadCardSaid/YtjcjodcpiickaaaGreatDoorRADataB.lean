/- FnRead: the laws' own comparison of data; the data that the reference draws. -/
import Derived.Test.YtjcjodcpiickaaaGreatDoorRADataA
import Derived.Test.YtjcjodcpiickaaaGreatDoorRAFormA
namespace Go.Proofs.YtjcjodcpiickaaaGreatDoor.RA
open Go Go.VS Go.Lib
set_option maxRecDepth 10000
set_option maxHeartbeats 8000000
set_option linter.unusedSimpArgs false
set_option linter.unusedVariables false
theorem n0 {c : KDatum} (h : c.n = 0) : -9223372036854775808 ≤ c.n ∧ c.n ≤ 9223372036854775807 := by omega
theorem atomD_num {t : ByteArray} {c : KDatum} (h : atomD t = some c) : -9223372036854775808 ≤ c.n ∧ c.n ≤ 9223372036854775807 := by
 unfold atomD at h
 split at h
 ·rename_i hr
  obtain rfl := (Option.some.inj h).symm
  exact ⟨by have := hr.2.1; simp only; omega, by have := hr.2.2; simp only; omega⟩
 ·split at h
  ·obtain rfl := (Option.some.inj h).symm; exact ⟨by decide, by decide⟩
  ·split at h
   ·obtain rfl := (Option.some.inj h).symm; exact ⟨by decide, by decide⟩
   ·split at h
    ·obtain rfl := (Option.some.inj h).symm; exact n0 rfl
    ·cases h
theorem post_num : ∀ (t : DT) (n : Nat), t.Good → ∀ c ∈ post n t, -9223372036854775808 ≤ c.n ∧ c.n ≤ 9223372036854775807
 | .atom x, n, hg, c, hc => by
  simp [post] at hc
  subst hc
  rcases hg with rfl | hg
  ·exact ⟨by decide, by decide⟩
  ·exact atomD_num hg.t
 | .pair a b, n, hg, c, hc => by
  rw [post_pair] at hc
  rcases List.mem_append.1 hc with hc | hc
  ·exact post_num a n hg.1 c hc
  ·rcases List.mem_append.1 hc with hc | hc
   ·exact post_num b _ hg.2 c hc
   ·obtain rfl := List.mem_singleton.1 hc
    exact n0 rfl
theorem postA_num : ∀ (ts : List DT) (n : Nat), GoodA ts → ∀ c ∈ postA n ts, -9223372036854775808 ≤ c.n ∧ c.n ≤ 9223372036854775807
 | [], n, hg, c, hc => by cases hc
 | t :: ts, n, hg, c, hc => by
  simp only [postA] at hc
  rcases List.mem_append.1 hc with hc | hc
  ·exact post_num t n (hg t (by simp)).1 c hc
  ·exact postA_num ts _ (fun x hx => hg x (by simp [hx])) c hc
theorem readR_num (s : ByteArray) : ∀ c ∈ (readR s).1.cells, -9223372036854775808 ≤ c.n ∧ c.n ≤ 9223372036854775807 := by
 rcases readR_bad s with h | ⟨_, _, h⟩
 ·obtain ⟨ts, h1, h2, h3⟩ := read_sound h
  rw [h3]
  exact postA_num ts 0 h1.good
 ·rw [h]
  exact fun c hc => by cases hc
/-- Data that are small enough to be shown. -/
structure Small (d : KData) : Prop where
 c : d.cells.length ≤ 1001
 t : d.tops.length ≤ 1001
 s : ∀ x ∈ d.cells, x.s.size ≤ 16
 n : ∀ x ∈ d.cells, -9223372036854775808 ≤ x.n ∧ x.n ≤ 9223372036854775807
theorem readR_smallD (s : ByteArray) : Small (readR s).1 := by
 obtain ⟨h1, h2, h3⟩ := readR_size s
 exact ⟨by omega, by omega, h3, readR_num s⟩
theorem us_few {cs : List KDatum} (h : ∀ c ∈ cs, c.s.size ≤ 16) : KDatum.us cs ≤ 16 * cs.length := by
 induction cs with
 | nil => simp [KDatum.us]
 | cons c cs ih =>
  have h1 := h c (by simp)
  have h2 := ih fun x hx => h x (by simp [hx])
  simp only [KDatum.us, KDatum.w, List.length_cons]
  omega
theorem Small.ok {d : KData} (h : Small d) : ShowOk d := ⟨by have := h.c; omega, h.n⟩
theorem Small.us {d : KData} (h : Small d) : KDatum.us d.cells ≤ 1048576 := by have := us_few h.s; have := h.c; omega
theorem Small.ts {d : KData} (h : Small d) : (d.tops.length : Int) ≤ 1048576 := by have := h.t; omega
theorem Small.len {d : KData} (h : Small d) : (showB d).length ≤ 1000000000 := by
 unfold showB
 by_cases hwh : wholeB d = true
 ·rw [if_pos hwh]
  have := tops_len h.ok (whole_of hwh) h.us h.ts
  omega
 ·rw [if_neg hwh]
  simp
theorem sameI (a : List Int) (ha : (a.length : Int) ≤ 1000000000) : A 75 [.leaf (Kints false a), .leaf (Kints false a)] = some ([.leaf (.bool true)], [.gone, .gone]) := by
 refine run_laws_sameInts ?_
 simp (maxSteps := 1000000) (disch := omega) [ip, wr, laws_sameInts.b]
 refine at_all 5 laws_sameInts.l0.eq_1 (fun _ : Int => true) a (by simp) (fun g => ?_) (fun i q hx hi hp ih => ?_) (fun i q hx hi hp g => ?_)
 ·simp (maxSteps := 1000000) (disch := omega) [ip, wr, ]
 ·simp (maxSteps := 1000000) (disch := omega) [ip, wr, hi, hx, at_get hx]
  exact ih
 ·cases hp
theorem sameDL (a : KData) (ha : (a.cells.length : Int) ≤ 1000000000) (hb : (a.tops.length : Int) ≤ 1000000000) : A 17 [.agg (KData.row false a), .agg (KData.row false a)] = some ([.leaf (.bool true)], [.gone, .gone]) := by
 refine run_laws_sameData ?_
 obtain ⟨a, s⟩ := a
 simp only at ha hb
 have h1 := sameI s hb
 simp (maxSteps := 1000000) (disch := omega) [ip, wr, laws_sameData.b, h1]
 refine at_all 5 laws_sameData.l0.eq_1 (fun _ : KDatum => true) a (by simp) (fun g => ?_) (fun i q hx hi hp ih => ?_) (fun i q hx hi hp g => ?_)
 ·simp (maxSteps := 1000000) (disch := omega) [ip, wr, ]
 ·have he := eqD q q
  rw [decide_eq_true rfl] at he
  simp (maxSteps := 1000000) (disch := omega) [ip, wr, hi, hx, at_get hx, he]
  exact ih
 ·cases hp
theorem Small.set {d : KData} (h : Small d) (k : Nat) {x : KDatum} (hs : x.s.size ≤ 16) (hn : -9223372036854775808 ≤ x.n ∧ x.n ≤ 9223372036854775807) : Small ⟨d.cells.set k x, d.tops⟩ := by
 refine ⟨by simp only [List.length_set]; exact h.c, h.t, fun y hy => ?_, fun y hy => ?_⟩
 ·rcases List.mem_or_eq_of_mem_set hy with hy | rfl
  ·exact h.s y hy
  ·exact hs
 ·rcases List.mem_or_eq_of_mem_set hy with hy | rfl
  ·exact h.n y hy
  ·exact hn
theorem wrap_inD (n : Int) : -9223372036854775808 ≤ IntKind.i64.wrap n ∧ IntKind.i64.wrap n ≤ 9223372036854775807 := by
 have e : IntKind.i64.wrap n = if n % 18446744073709551616 ≥ 9223372036854775808 then n % 18446744073709551616 - 18446744073709551616 else n % 18446744073709551616 := by
  simp [IntKind.wrap, IntKind.bits, IntKind.signed]
 rw [e]
 split <;> omega
theorem data_ex {b : List UInt8} (hb : (b.length : Int) ≤ 1000000000) (i h most : Int) (h0 : 0 ≤ i) (hm : 0 ≤ most ∧ most ≤ 5) : ∃ (d : KData) (i' : Nat) (h' : Int), Small d ∧ A 72 [.box (curR b i h), .leaf (.int .i64 most)] = some ([.agg (KData.row true d)], [.box (curR b i' h'), .gone]) := by
 obtain ⟨rs, os, e1, d, i', h', hs, rfl, rfl⟩ : ∃ rs os, A 72 [.box (curR b i h), .leaf (.int .i64 most)] = some (rs, os) ∧ ∃ (d : KData) (i' : Nat) (h' : Int), Small d ∧ rs = [.agg (KData.row true d)] ∧ os = [.box (curR b i' h'), .gone] := by
  refine runE_spec_l2Data ?_
  obtain ⟨s, i1, h1, z1, e1⟩ := text_ex hb i h most h0 hm
  have e2 := specRead (s := s) (by omega)
  have hS := readR_smallD s
  have hT := (readR_size s).2.1
  generalize readR s = z at *
  obtain ⟨⟨cs, ts⟩, bad⟩ := z
  simp only at hS hT
  by_cases hl : cs = []
  ·simp (maxSteps := 1000000) (disch := omega) [ip, wr, spec_l2Data.b, e1, e2, hl]
   subst hl
   exact ⟨⟨[], ts⟩, hS, ⟨rfl, rfl⟩, _, rfl⟩
  ·have hl' := List.length_pos_iff.2 hl
   obtain ⟨k3, i3, h3, e3⟩ := once_ex hb (i := i1) h1 (by omega) 6
   rcases k3 with _ | _
   ·simp (maxSteps := 1000000) (disch := omega) [ip, wr, spec_l2Data.b, e1, e2, hl, e3]
    exact ⟨⟨cs, ts⟩, hS, ⟨rfl, rfl⟩, _, rfl⟩
   ·obtain ⟨k, i4, h4, z4, e4⟩ := below_ex hb (i := i3) h3 (by omega) (cs.length : Int) (by omega)
    obtain ⟨m, i5, h5, z5, e5⟩ := below_ex hb (i := i4) h4 (by omega) 5 (by decide)
    obtain ⟨a, i6, h6, z6, e6⟩ := below_ex hb (i := i5) h5 (by omega) 7 (by decide)
    obtain ⟨c, i7, h7, z7, e7⟩ := below_ex hb (i := i5) h5 (by omega) 5 (by decide)
    obtain ⟨e, i8, h8, z8, e8⟩ := below_ex hb (i := i5) h5 (by omega) 6 (by decide)
    obtain ⟨g, i9, h9, z9, e9⟩ := pickC4 hb (i := i5) h5 (by omega)
    obtain ⟨zk0, zk1⟩ := z4
    have hk : k.toNat < cs.length := by omega
    have hg : cs[k.toNat]? = some (cs[k.toNat]'hk) := List.getElem?_eq_getElem hk
    have hmem : cs[k.toNat]'hk ∈ cs := List.getElem_mem hk
    have xs := hS.s _ hmem
    have xn := hS.n _ hmem
    by_cases m0 : m = 0
    ·simp (maxSteps := 1000000) (disch := omega) [ip, wr, spec_l2Data.b, e1, e2, hl, e3, e4, e5, e6, zk0, zk1, hg, m0]
     exact ⟨⟨cs.set k.toNat ⟨a, cs[k.toNat].n, cs[k.toNat].s, cs[k.toNat].l, cs[k.toNat].r⟩, ts⟩, hS.set _ xs xn, ⟨by simp only [List.map_set], rfl⟩, _, rfl⟩
    ·by_cases m1 : m = 1
     ·simp (maxSteps := 1000000) (disch := omega) [ip, wr, spec_l2Data.b, e1, e2, hl, e3, e4, e5, zk0, zk1, hg, m1]
      exact ⟨⟨cs.set k.toNat ⟨cs[k.toNat].kind, IntKind.i64.wrap (cs[k.toNat].n + 1), cs[k.toNat].s, cs[k.toNat].l, cs[k.toNat].r⟩, ts⟩, hS.set _ xs (wrap_inD _), ⟨by simp only [List.map_set], rfl⟩, _, rfl⟩
     ·by_cases m2 : m = 2
      ·have hc : IntKind.i64.wrap (c - 1) = c - 1 := wrap_i64 (by omega) (by omega)
       simp (maxSteps := 1000000) (disch := omega) [ip, wr, spec_l2Data.b, e1, e2, hl, e3, e4, e5, e7, zk0, zk1, hg, m2, hc]
       exact ⟨⟨cs.set k.toNat ⟨cs[k.toNat].kind, cs[k.toNat].n, cs[k.toNat].s, c - 1, cs[k.toNat].r⟩, ts⟩, hS.set _ xs xn, ⟨by simp only [List.map_set], rfl⟩, _, rfl⟩
      ·by_cases m3 : m = 3
       ·have hc : IntKind.i64.wrap (e - 1) = e - 1 := wrap_i64 (by omega) (by omega)
        simp (maxSteps := 1000000) (disch := omega) [ip, wr, spec_l2Data.b, e1, e2, hl, e3, e4, e5, e8, zk0, zk1, hg, m3, hc]
        exact ⟨⟨cs, ts ++ [e - 1]⟩, ⟨hS.c, by simp only [List.length_append, List.length_singleton]; omega, hS.s, hS.n⟩, ⟨rfl, by simp⟩, _, rfl⟩
       ·simp (maxSteps := 1000000) (disch := omega) [ip, wr, spec_l2Data.b, e1, e2, hl, e3, e4, e5, e9, zk0, zk1, hg, m0, m1, m2, m3]
        exact ⟨⟨cs.set k.toNat ⟨cs[k.toNat].kind, cs[k.toNat].n, g, cs[k.toNat].l, cs[k.toNat].r⟩, ts⟩, hS.set _ (by simp only; omega) xn, ⟨by simp only [List.map_set], rfl⟩, _, rfl⟩
 exact ⟨d, i', h', hs, e1⟩
theorem drawDataOk (b : List UInt8) (hb : (b.length : Int) ≤ 1000000000) : ∃ d : KData, Small d ∧ A 15 [codeR b] = some ([.agg (KData.row true d)], [.gone]) := by
 obtain ⟨h, e1⟩ := l1New b hb
 obtain ⟨m, hm, e2⟩ := l1Size b 5 (by decide) hb
 obtain ⟨d, i2, h2, z2, e3⟩ := data_ex hb 0 h m (Int.le_refl _) hm
 refine ⟨d, z2, run_spec_DrawDataOk ?_⟩
 simp (maxSteps := 1000000) (disch := omega) [ip, wr, spec_DrawDataOk.b, e1, e2, e3]
end Go.Proofs.YtjcjodcpiickaaaGreatDoor.RA
