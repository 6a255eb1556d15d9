/- Data shown as a text, by the reference. -/
import Derived.Test.YtjcjodcpiickaaaGreatDoorRAShowB
namespace Go.Proofs.YtjcjodcpiickaaaGreatDoor.RA
open Go Go.VS Go.Lib
set_option maxRecDepth 10000
set_option maxHeartbeats 8000000
set_option linter.unusedSimpArgs false
set_option linter.unusedVariables false
theorem specTree (d : KData) (hl : (d.cells.length : Int) ≤ 1048576) (ht : (d.tops.length : Int) ≤ 1048576) : A 161 [.agg (KData.row false d)] = some ([.leaf (.bool (wholeB d))], [.gone]) := by
 obtain ⟨cs, ts⟩ := d
 simp only at hl ht
 refine run_spec_l2Tree ?_
 simp (maxSteps := 1000000) (disch := omega) [ip, wr, spec_l2Tree.b]
 refine at_foldM (fun e i (s : List Int) => (e.put 4 (.v (.leaf (.int .i64 i)))).put 3 (.v (.leaf (Kints true s)))) spec_l2Tree.l0.eq_1 cellStep cs.zipIdx (List.replicate cs.length 0) (by simp) (fun u g => ?_) (fun i x u u' hx hi hs hf ih => ?_) (fun i x u hx hi hs hf g => ?_)
 ·have hu := seen_cells (i := cs.zipIdx.length) (by rw [List.take_length]; exact g)
  rw [List.length_zipIdx]
  simp (maxSteps := 1000000) (disch := omega) [ip, wr, ]
  refine at_foldM (fun e i (s : List Int) => (e.put 6 (.v (.leaf (.int .i64 i)))).put 3 (.v (.leaf (Kints true s)))) spec_l2Tree.l1.eq_1 topStep ts u (by simp) (fun r g2 => ?_) (fun i x r r' hx hi hs hf ih => ?_) (fun i x r hx hi hs hf g2 => ?_)
  ·rw [wholeB_some g g2]
   have hr := seen_tops hu ts.length (by rw [List.take_length]; exact g2)
   have hrl : (r.length : Int) = cs.length := by rw [hr.1]
   simp (maxSteps := 1000000) (disch := omega) [ip, wr, ]
   refine at_all 7 spec_l2Tree.l2.eq_1 (fun n : Int => decide (n = 1)) r (by simp) (fun g3 => ?_) (fun i x hx hi hp ih => ?_) (fun i x hx hi hp g3 => ?_)
   ·rw [g3]
    simp (maxSteps := 1000000) (disch := omega) [ip, wr, ]
   ·have hp := of_decide_eq_true hp
    simp (maxSteps := 1000000) (disch := omega) [ip, wr, hi, hx, at_get hx, hp]
    exact ih
   ·have hp := of_decide_eq_false hp
    rw [g3]
    simp (maxSteps := 1000000) (disch := omega) [ip, wr, hi, hx, at_get hx, hp]
  ·unfold topStep at hf
   have hr := seen_tops hu i hs
   rw [hr.1] at hf
   split at hf
   ·rename_i hx2
    obtain rfl := (Option.some.inj hf).symm
    obtain ⟨hx0, hx1⟩ := hx2
    obtain ⟨v, e1, d1, v0, v1⟩ := seen_at hr hx0 hx1
    unfold bump at ih
    rw [d1] at ih
    have hxl : x.toNat < r.length := by have := hr.1; omega
    simp (maxSteps := 1000000) (disch := omega) [ip, wr, hi, hx, at_get hx, hx0, e1, at_get e1, hxl]
    refine run_env ih ?_
    simp
   ·cases hf
  ·unfold topStep at hf
   have hr := seen_tops hu i hs
   rw [hr.1] at hf
   split at hf
   ·cases hf
   ·rename_i hx2
    rw [wholeB_tops g g2]
    have hrl := hr.1
    by_cases x0 : x < 0
    ·simp (maxSteps := 1000000) (disch := omega) [ip, wr, hi, hx, at_get hx, x0]
    ·have x1 : (r.length : Int) ≤ x := by omega
     simp (maxSteps := 1000000) (disch := omega) [ip, wr, hi, hx, at_get hx, x0, x1]
 ·obtain ⟨c, rfl, hc⟩ := zip_at hx
  have hu := seen_cells hs
  rw [List.length_zipIdx] at hi
  unfold cellStep at hf
  simp only at hf
  by_cases hk : c.kind = 5
  ·rw [if_pos hk] at hf
   split at hf
   ·rename_i hlow
    obtain rfl := (Option.some.inj hf).symm
    unfold lowB at hlow
    rw [decide_eq_true_iff] at hlow
    obtain ⟨⟨l0, l1⟩, r0, r1⟩ := hlow hk
    obtain ⟨v, e1, d1, v0, v1⟩ := seen_at hu l0 (by omega)
    obtain ⟨v', e2, d2, v0', v1'⟩ := seen_at (bump_ok hu l0 (by omega)) r0 (by omega)
    rw [show bump (bump u c.l) c.r = (bump u c.l).set c.r.toNat (v' + 1) by unfold bump at d2 ⊢; rw [d2]] at ih
    rw [show bump u c.l = u.set c.l.toNat (v + 1) by unfold bump; rw [d1]] at ih e2
    have hul := hu.1
    have h1 : c.l.toNat < u.length := by omega
    have h2 : c.r.toNat < u.length := by omega
    have e4 := set_row e2
    simp (maxSteps := 1000000) (disch := omega) [ip, wr, hi, hc, at_get hc, hk, l0, r0, e1, at_get e1, e4, h1, h2]
    refine run_env ih ?_
    simp [List.map_set]
   ·cases hf
  ·rw [if_neg hk] at hf
   obtain rfl := (Option.some.inj hf).symm
   simp (maxSteps := 1000000) (disch := omega) [ip, wr, hi, hc, at_get hc, hk]
   exact ih
 ·obtain ⟨c, rfl, hc⟩ := zip_at hx
  rw [List.length_zipIdx] at hi
  unfold cellStep at hf
  simp only at hf
  by_cases hk : c.kind = 5
  ·rw [if_pos hk] at hf
   split at hf
   ·cases hf
   ·rename_i hlow
    unfold lowB at hlow
    rw [decide_eq_true_iff] at hlow
    rw [wholeB_none g]
    by_cases x0 : c.l < 0
    ·simp (maxSteps := 1000000) (disch := omega) [ip, wr, hi, hc, at_get hc, hk, x0]
    ·by_cases x1 : (i : Int) ≤ c.l
     ·simp (maxSteps := 1000000) (disch := omega) [ip, wr, hi, hc, at_get hc, hk, x0, x1]
     ·by_cases x2 : c.r < 0
      ·simp (maxSteps := 1000000) (disch := omega) [ip, wr, hi, hc, at_get hc, hk, x0, x1, x2]
      ·have x3 : (i : Int) ≤ c.r := Int.not_lt.1 fun h => hlow fun _ => ⟨⟨by omega, by omega⟩, by omega, by omega⟩
       simp (maxSteps := 1000000) (disch := omega) [ip, wr, hi, hc, at_get hc, hk, x0, x1, x2, x3]
  ·rw [if_neg hk] at hf
   cases hf
def SaysAs (d : KData) (t : DT) : Prop := ∀ (i : Int), TreeAt d.cells i t → (t.txt false).length ≤ 900000000 → A 162 [.agg (KData.row false d), .leaf (.int .i64 i)] = some ([.leaf (.str (str (t.txt false)))], [.gone, .gone])
theorem ap1 (l : List UInt8) (c : UInt8) : str l ++ (⟨#[c]⟩ : ByteArray) = str (l ++ [c]) := str_append l [c]
theorem pa1 (l : List UInt8) (c : UInt8) : (⟨#[c]⟩ : ByteArray) ++ str l = str (c :: l) := str_append [c] l
theorem ap3 (l : List UInt8) (a b c : UInt8) : str l ++ (⟨#[a, b, c]⟩ : ByteArray) = str (l ++ [a, b, c]) := str_append l [a, b, c]
theorem say_tail {d : KData} (hd : ShowOk d) (N : Nat) (hN : ∀ t : DT, t.size < N → SaysAs d t) (ks : List Fr) (Q : VX → Env → Prop) (F : List UInt8) (hF : F.length ≤ 900000000)
  (hq : ∀ (o : List UInt8) (j : Int) (c : KDatum), TreeAt d.cells j (.atom c) → o ++ DT.txt true (.atom c) = F → Run G A (.exit 1) [(2, .v (.box (KData.row false d))), (6, .v (.leaf (.str (str o)))), (7, .v (.leaf (.int .i64 j))), (46, .v (.leaf (.bool false)))] ks Q) :
  ∀ (b : DT) (i : Int) (out : List UInt8), b.size < N → TreeAt d.cells i b → out ++ b.txt true = F →
   Run G A (.loop spec_l2Show.l0) [(2, .v (.box (KData.row false d))), (6, .v (.leaf (.str (str out)))), (7, .v (.leaf (.int .i64 i)))] ks Q
 | .atom x, i, out, hb, ht, hout => by
  have hq := hq out i x ht hout
  cases ht with
  | atom _ _ h0 hc hk =>
   have hi : i.toNat < d.cells.length := (List.getElem?_eq_some_iff.1 hc).1
   refine run_loop_at spec_l2Show.l0.eq_1 ?_
   simp (maxSteps := 1000000) (disch := omega) [ip, wr, hk, h0, hc, at_get hc, hi]
   exact hq
 | .pair x y, i, out, hb, ht, hout => by
  cases ht with
  | pair _ c _ _ h0 hc hk hx hy =>
   have hi : i.toNat < d.cells.length := (List.getElem?_eq_some_iff.1 hc).1
   simp only [DT.size] at hb
   have hlen := congrArg List.length hout
   simp only [DT.txt, List.length_append, List.length_cons] at hlen
   have g2 := hN x (by omega) c.l hx (by omega)
   have ih := say_tail hd N hN ks Q F hF hq y c.r (out ++ [32] ++ x.txt false) (by omega) hy (by rw [← hout]; simp [DT.txt])
   refine run_loop_at spec_l2Show.l0.eq_1 ?_
   simp (maxSteps := 1000000) (disch := omega) [ip, wr, hk, h0, hc, at_get hc, hi, g2, ap1, str_append, str_size]
   refine run_env ih ?_
   simp
theorem say_all {d : KData} (hd : ShowOk d) : ∀ (N : Nat) (t : DT), t.size < N → SaysAs d t
 | 0, t, h => by omega
 | N + 1, t, h => by
  have hN := say_all hd N
  intro i ht hlen
  refine run_spec_l2Show ?_
  cases ht with
  | atom _ c h0 hc hk =>
   have hi : i.toNat < d.cells.length := (List.getElem?_eq_some_iff.1 hc).1
   have hcn := hd.hn c (List.mem_of_getElem? hc)
   have hl := hd.hl
   simp only [DT.txt, atomT] at hlen ⊢
   by_cases k1 : c.kind = 1
   ·have g1 := dec c.n hcn.1 hcn.2
    rw [if_pos k1]
    simp (maxSteps := 1000000) (disch := omega) [ip, wr, spec_l2Show.b, h0, hc, at_get hc, k1, g1, hi]
   ·rw [if_neg k1]
    by_cases k2 : c.kind = 2
    ·rw [if_pos k2]
     by_cases kn : c.n = 1
     ·rw [if_pos kn]
      simp (maxSteps := 1000000) (disch := omega) [ip, wr, spec_l2Show.b, h0, hc, at_get hc, k2, kn, hi]
      rfl
     ·rw [if_neg kn]
      simp (maxSteps := 1000000) (disch := omega) [ip, wr, spec_l2Show.b, h0, hc, at_get hc, k2, kn, hi]
      rfl
    ·rw [if_neg k2]
     by_cases k3 : c.kind = 3
     ·rw [if_pos k3, str_data]
      simp (maxSteps := 1000000) (disch := omega) [ip, wr, spec_l2Show.b, h0, hc, at_get hc, k3, hi]
     ·rw [if_neg k3]
      by_cases k4 : c.kind = 4
      ·rw [if_pos k4]
       simp (maxSteps := 1000000) (disch := omega) [ip, wr, spec_l2Show.b, h0, hc, at_get hc, k4, hi]
       rfl
      ·rw [if_neg k4]
       simp (maxSteps := 1000000) (disch := omega) [ip, wr, spec_l2Show.b, h0, hc, at_get hc, k1, k2, k3, k4, hk, hi]
       rfl
  | pair _ c x y h0 hc hk hx hy =>
   have hi : i.toNat < d.cells.length := (List.getElem?_eq_some_iff.1 hc).1
   simp only [DT.size] at h
   simp only [DT.txt, List.length_append, List.length_cons] at hlen
   have g2 := hN x (by omega) c.l hx (by omega)
   simp (maxSteps := 1000000) (disch := omega) [ip, wr, spec_l2Show.b, h0, hc, at_get hc, hk, g2, hi, pa1, str_size]
   refine run_env (say_tail hd N hN _ _ (40 :: x.txt false ++ y.txt true) (by simp only [List.length_append, List.length_cons]; omega) (fun o j q hj ho => ?_) y c.r (40 :: x.txt false) (by omega) hy rfl) ?_
   ·have hof := congrArg List.length ho
    simp only [DT.txt, List.length_append, List.length_cons, List.length_nil] at hof
    have hfin : DT.txt false (.pair x y) = o ++ DT.txt true (.atom q) := by rw [ho]; simp [DT.txt]
    rw [hfin]
    have hj2 := hj
    cases hj2 with
    | atom _ _ j0 jc jk =>
     have ji : j.toNat < d.cells.length := (List.getElem?_eq_some_iff.1 jc).1
     by_cases k4 : q.kind = 4
     ·have e4 : DT.txt true (.atom q) = [41] := by simp [DT.txt, k4]
      rw [e4]
      rw [if_pos k4] at hof
      simp only [List.length_cons, List.length_nil] at hof
      simp (maxSteps := 1000000) (disch := omega) [ip, wr, k4, j0, jc, at_get jc, ji, ap1, str_size]
     ·have e4 : DT.txt true (.atom q) = [32, 46, 32] ++ (atomT q ++ [41]) := by simp [DT.txt, k4]
      rw [e4]
      rw [if_neg k4] at hof
      simp only [List.length_append, List.length_cons, List.length_nil] at hof
      have g4 := hN (.atom q) (by have := size_pos' x; have := size_pos' y; simp only [DT.size]; omega) j hj (by simp only [DT.txt]; omega)
      simp only [DT.txt] at g4
      simp (maxSteps := 1000000) (disch := omega) [ip, wr, k4, j0, jc, at_get jc, ji, g4, ap1, ap3, str_append, str_size]
   ·simp
theorem specShow {d : KData} (hd : ShowOk d) (hus : KDatum.us d.cells ≤ 1048576) (ht : (d.tops.length : Int) ≤ 1048576) : A 76 [.agg (KData.row false d)] = some ([.leaf (.str ⟨(showB d).toArray⟩)], [.gone]) := by
 have hw := specTree d hd.hl ht
 refine run_spec_Show ?_
 unfold showB
 by_cases hwh : wholeB d = true
 ·rw [hwh] at hw
  rw [if_pos hwh]
  have hW := whole_of hwh
  have hL := tops_len hd hW hus ht
  have e : ∀ (ts : List Int) (s : List UInt8), ts.foldl (fun s x => s ++ (txtAt d.cells x ++ [10])) s = s ++ topsT d.cells ts := by
   intro ts
   induction ts with
   | nil => intro s; simp [topsT]
   | cons x ts ih => intro s; rw [List.foldl_cons, ih]; simp [topsT]
  simp (maxSteps := 1000000) (disch := omega) [ip, wr, spec_Show.b, hw]
  refine at_fold (fun e i (s : List UInt8) => (e.put 4 (.v (.leaf (.int .i64 i)))).put 3 (.v (.leaf (.str (str s))))) spec_Show.l0.eq_1 (fun s x => s ++ (txtAt d.cells x ++ [10])) d.tops [] (by simp; rfl) ?_ (fun i x hx hi ih => ?_)
  ·rw [e, List.nil_append]
   show Run G A _ _ _ (QF true _ _ ([.leaf (.str (str (topsT d.cells d.tops)))], [.gone]))
   generalize topsT d.cells d.tops = o at *
   simp (maxSteps := 1000000) (disch := omega) [ip, wr, ]
  ·rw [e, List.nil_append] at ih ⊢
   obtain ⟨t, hT⟩ := whole_tree hW (List.mem_of_getElem? hx)
   have h1 := take_len hW (i + 1)
   rw [topsT_snoc hx] at h1
   simp only [List.length_append, List.length_cons, List.length_nil] at h1
   generalize topsT d.cells (d.tops.take i) = o at *
   have e2 := txtAt_of hT
   rw [e2] at ih h1
   have g1 := say_all hd (t.size + 1) t (Nat.lt_succ_self _) x hT (by omega)
   simp (maxSteps := 1000000) (disch := omega) [ip, wr, hi, hx, at_get hx, g1, ap1, str_append, str_size]
   refine run_env ih ?_
   simp
 ·rw [if_neg hwh]
  rw [Bool.not_eq_true] at hwh
  rw [hwh] at hw
  simp (maxSteps := 1000000) (disch := omega) [ip, wr, spec_Show.b, hw]
end Go.Proofs.YtjcjodcpiickaaaGreatDoor.RA
