/- Data shown as a text, by the program. -/
import Derived.Test.YtjcjodcpiickaaaGreatDoorRAShowA
namespace Go.Proofs.YtjcjodcpiickaaaGreatDoor.RA
open Go Go.VS Go.Lib
set_option maxRecDepth 10000
set_option maxHeartbeats 8000000
set_option linter.unusedSimpArgs false
set_option linter.unusedVariables false
abbrev bldR (out : List UInt8) : CV := .box [.self 114, .bts 5 out]
theorem wrS (out : List UInt8) (s : ByteArray) (h : out.length + s.size ≤ 1000000000) : A 157 [bldR out, .leaf (.str s)] = some ([.leaf (.int .i64 s.size), .gone], [bldR (out ++ s.data.toList), .gone]) := by
 refine P_strings_Builder_WriteString ?_
 simp only [prim_strings_Builder_WriteString, runWS]
 rw [if_pos ⟨⟨trivial, trivial⟩, h⟩]
theorem wrB (out : List UInt8) (c : UInt8) (h : out.length + 1 ≤ 1000000000) : A 70 [bldR out, .leaf (.int .u8 c.toNat)] = some ([.gone], [bldR (out ++ [c]), .gone]) := by
 refine P_strings_Builder_WriteByte ?_
 simp only [prim_strings_Builder_WriteByte, runWB]
 have hc := c.toNat_lt
 rw [if_pos ⟨⟨trivial, trivial⟩, h, by omega, by omega⟩, Int.toNat_natCast, UInt8.ofNat_toNat]
theorem wr32 (out : List UInt8) (h : out.length + 1 ≤ 1000000000) : A 70 [bldR out, .leaf (.int .u8 32)] = some ([.gone], [bldR (out ++ [32]), .gone]) := wrB out 32 h
theorem wr40 (out : List UInt8) (h : out.length + 1 ≤ 1000000000) : A 70 [bldR out, .leaf (.int .u8 40)] = some ([.gone], [bldR (out ++ [40]), .gone]) := wrB out 40 h
theorem wr41 (out : List UInt8) (h : out.length + 1 ≤ 1000000000) : A 70 [bldR out, .leaf (.int .u8 41)] = some ([.gone], [bldR (out ++ [41]), .gone]) := wrB out 41 h
theorem wr10 (out : List UInt8) (h : out.length + 1 ≤ 1000000000) : A 70 [bldR out, .leaf (.int .u8 10)] = some ([.gone], [bldR (out ++ [10]), .gone]) := wrB out 10 h
theorem bStr (out : List UInt8) : A 71 [bldR out] = some ([.leaf (.str ⟨out.toArray⟩)], [.box [.self 114, .bad]]) := by
 refine P_strings_Builder_String ?_
 simp only [prim_strings_Builder_String, runBS]
 rw [if_pos ⟨trivial, trivial⟩]
theorem implDec (n : Int) (h0 : -9223372036854775808 ≤ n) (h1 : n ≤ 9223372036854775807) : A 158 [.leaf (.int .i64 n)] = some ([.leaf (.str (str (itoa n)))], [.gone]) := by
 have h := P_strconv_Itoa (cs := [.leaf (.int .i64 n)]) (r := ([.leaf (.str (str (itoa n)))], [.gone])) (by simp only [prim_strconv_Itoa, runItoa]; rw [if_pos ⟨h0, h1⟩]; rfl)
 refine run_impl_Dec ?_
 simp (maxSteps := 1000000) (disch := omega) [ip, wr, impl_Dec.b, h]
theorem boolText (b : Bool) : A 159 [.leaf (.bool b)] = some ([.leaf (.str (if b = true then ⟨#[35, 116]⟩ else ⟨#[35, 102]⟩))], [.gone]) := by
 refine run_impl_boolText ?_
 cases b <;> simp (maxSteps := 1000000) (disch := omega) [ip, wr, impl_boolText.b]
theorem size_pos' : ∀ t : DT, 0 < t.size
 | .atom _ => by simp [DT.size]
 | .pair _ _ => by simp [DT.size]
/-- What is so of data that are shown. -/
structure ShowOk (d : KData) : Prop where
 hl : (d.cells.length : Int) ≤ 1048576
 hn : ∀ c ∈ d.cells, -9223372036854775808 ≤ c.n ∧ c.n ≤ 9223372036854775807
def ShowsAs (d : KData) (t : DT) : Prop := ∀ (i : Int) (out : List UInt8), TreeAt d.cells i t → out.length + (t.txt false).length ≤ 900000000 → A 69 [.box (KData.row false d), bldR out, .leaf (.int .i64 i)] = some ([], [.box (KData.row false d), bldR (out ++ t.txt false), .gone])
theorem show_tail {d : KData} (hd : ShowOk d) (N : Nat) (hN : ∀ t : DT, t.size < N → ShowsAs d t) (ks : List Fr) (Q : VX → Env → Prop) (F : List UInt8) (hF : F.length ≤ 900000000)
  (hq : ∀ (o : List UInt8) (j : Int) (c : KDatum), TreeAt d.cells j (.atom c) → o ++ DT.txt true (.atom c) = F → Run G A (.exit 1) [(0, .v (.box (KData.row false d))), (1, .v (bldR o)), (7, .v (.box (KDatum.row false c))), (8, .v (.leaf (.int .i64 j))), (64, .v (.leaf (.bool false)))] ks Q) :
  ∀ (b : DT) (i : Int) (c : KDatum) (out : List UInt8), b.size < N → TreeAt d.cells i b → d.cells[i.toNat]? = some c → out ++ b.txt true = F →
   Run G A (.loop impl_Data_show.l0) [(0, .v (.box (KData.row false d))), (1, .v (bldR out)), (7, .v (.box (KDatum.row false c))), (8, .v (.leaf (.int .i64 i)))] ks Q
 | .atom x, i, c, out, hb, ht, hc, hout => by
  have hq := hq out i c (by cases ht with | atom _ _ h0 h hk => rw [h] at hc; obtain rfl := Option.some.inj hc; exact .atom _ _ h0 h hk) (by cases ht with | atom _ _ h0 h hk => rw [h] at hc; obtain rfl := Option.some.inj hc; exact hout)
  have hk : c.kind ≠ 5 := by cases ht with | atom _ _ h0 h hk => rw [h] at hc; obtain rfl := Option.some.inj hc; exact hk
  refine run_loop_at impl_Data_show.l0.eq_1 ?_
  simp (maxSteps := 1000000) (disch := omega) [ip, wr, hk]
  exact hq
 | .pair x y, i, c, out, hb, ht, hc, hout => by
  cases ht with
  | pair _ c' _ _ h0 h hk hx hy =>
   rw [h] at hc
   obtain rfl := Option.some.inj hc
   have hlt := hx.lt
   have hlt2 := hy.lt
   have hl := hd.hl
   have e2 : d.cells[c'.r.toNat]? = some (d.cells[c'.r.toNat]'(by omega)) := List.getElem?_eq_getElem (by omega)
   generalize d.cells[c'.r.toNat]'(by omega) = c2 at e2
   simp only [DT.size] at hb
   have hlen := congrArg List.length hout
   simp only [DT.txt, List.length_append, List.length_cons] at hlen
   have g1 := wr32 out (by omega)
   have g2 := hN x (by omega) c'.l (out ++ [32]) hx (by simp only [List.length_append, List.length_cons, List.length_nil]; omega)
   have ih := show_tail hd N hN ks Q F hF hq y c'.r c2 (out ++ [32] ++ x.txt false) (by omega) hy e2 (by rw [← hout]; simp [DT.txt])
   have r0 := hlt2.1
   have r1 : c'.r.toNat < d.cells.length := by omega
   refine run_loop_at impl_Data_show.l0.eq_1 ?_
   simp (maxSteps := 1000000) (disch := omega) [ip, wr, hk, g1, g2, e2, at_get e2, r0, r1]
   refine run_env ih ?_
   simp
theorem show_all {d : KData} (hd : ShowOk d) : ∀ (N : Nat) (t : DT), t.size < N → ShowsAs d t
 | 0, t, h => by omega
 | N + 1, t, h => by
  have hN := show_all hd N
  intro i out ht hlen
  refine run_impl_Data_show ?_
  cases ht with
  | atom _ c h0 hc hk =>
   have hi : i.toNat < d.cells.length := (List.getElem?_eq_some_iff.1 hc).1
   have hcn := hd.hn c (List.mem_of_getElem? hc)
   have hl := hd.hl
   simp only [DT.txt, atomT] at hlen ⊢
   by_cases k1 : c.kind = 1
   ·rw [if_pos k1] at hlen ⊢
    have g1 := implDec c.n hcn.1 hcn.2
    have g2 := wrS out (str (itoa c.n)) (by rw [str_size]; omega)
    have g3 : (str (itoa c.n)).data.toList = itoa c.n := by simp [str]
    rw [g3] at g2
    simp (maxSteps := 1000000) (disch := omega) [ip, wr, impl_Data_show.b, h0, hc, at_get hc, k1, g1, g2, hi]
   ·rw [if_neg k1] at hlen ⊢
    by_cases k2 : c.kind = 2
    ·rw [if_pos k2] at hlen ⊢
     have g1 := boolText (decide (c.n = 1))
     by_cases kn : c.n = 1
     ·rw [decide_eq_true kn, if_pos rfl] at g1
      have g2 := wrS out ⟨#[35, 116]⟩ (by simp; omega)
      rw [if_pos kn]
      simp (maxSteps := 1000000) (disch := omega) [ip, wr, impl_Data_show.b, h0, hc, at_get hc, k2, kn, g1, g2, hi]
     ·rw [decide_eq_false kn, if_neg (by simp)] at g1
      have g2 := wrS out ⟨#[35, 102]⟩ (by simp; omega)
      rw [if_neg kn]
      simp (maxSteps := 1000000) (disch := omega) [ip, wr, impl_Data_show.b, h0, hc, at_get hc, k2, kn, g1, g2, hi]
    ·rw [if_neg k2] at hlen ⊢
     by_cases k3 : c.kind = 3
     ·rw [if_pos k3] at hlen ⊢
      have g2 := wrS out c.s (by simp at hlen; omega)
      simp (maxSteps := 1000000) (disch := omega) [ip, wr, impl_Data_show.b, h0, hc, at_get hc, k3, g2, hi]
     ·rw [if_neg k3] at hlen ⊢
      by_cases k4 : c.kind = 4
      ·rw [if_pos k4] at hlen ⊢
       have g2 := wrS out ⟨#[40, 41]⟩ (by simp at hlen ⊢; omega)
       simp (maxSteps := 1000000) (disch := omega) [ip, wr, impl_Data_show.b, h0, hc, at_get hc, k4, g2, hi]
      ·rw [if_neg k4] at hlen ⊢
       simp (maxSteps := 1000000) (disch := omega) [ip, wr, impl_Data_show.b, h0, hc, at_get hc, k1, k2, k3, k4, hk, hi]
  | pair _ c x y h0 hc hk hx hy =>
   have hi : i.toNat < d.cells.length := (List.getElem?_eq_some_iff.1 hc).1
   have hl := hd.hl
   have hlt := hx.lt
   have hlt2 := hy.lt
   have e2 : d.cells[c.r.toNat]? = some (d.cells[c.r.toNat]'(by omega)) := List.getElem?_eq_getElem (by omega)
   generalize d.cells[c.r.toNat]'(by omega) = c2 at e2
   simp only [DT.size] at h
   simp only [DT.txt, List.length_append, List.length_cons] at hlen
   have g1 := wr40 out (by omega)
   have g2 := hN x (by omega) c.l (out ++ [40]) hx (by simp only [List.length_append, List.length_cons, List.length_nil]; omega)
   have r0 := hlt2.1
   have r1 : c.r.toNat < d.cells.length := by omega
   simp (maxSteps := 1000000) (disch := omega) [ip, wr, impl_Data_show.b, h0, hc, at_get hc, hk, g1, g2, hi, e2, at_get e2, r0, r1]
   refine run_env (show_tail hd N hN _ _ (out ++ [40] ++ x.txt false ++ y.txt true) (by simp only [List.length_append, List.length_cons, List.length_nil]; omega) (fun o j q hj ho => ?_) y c.r c2 (out ++ [40] ++ x.txt false) (by omega) hy e2 rfl) ?_
   ·have hof := congrArg List.length ho
    simp only [DT.txt, List.length_append, List.length_cons, List.length_nil] at hof
    have hfin : out ++ DT.txt false (.pair x y) = o ++ DT.txt true (.atom q) := by rw [ho]; simp [DT.txt]
    rw [hfin]
    by_cases k4 : q.kind = 4
    ·have e4 : DT.txt true (.atom q) = [41] := by simp [DT.txt, k4]
     rw [e4]
     rw [if_pos k4] at hof
     simp only [List.length_cons, List.length_nil] at hof
     have g3 := wr41 o (by omega)
     simp (maxSteps := 1000000) (disch := omega) [ip, wr, k4, g3]
    ·have e4 : DT.txt true (.atom q) = [32, 46, 32] ++ (atomT q ++ [41]) := by simp [DT.txt, k4]
     rw [e4]
     rw [if_neg k4] at hof
     simp only [List.length_append, List.length_cons, List.length_nil] at hof
     have g3 := wrS o ⟨#[32, 46, 32]⟩ (by simp; omega)
     have e5 : (⟨#[32, 46, 32]⟩ : ByteArray).data.toList = [32, 46, 32] := rfl
     rw [e5] at g3
     have g4 := hN (.atom q) (by have := size_pos' x; have := size_pos' y; simp only [DT.size]; omega) j (o ++ [32, 46, 32]) hj (by simp only [DT.txt, List.length_append, List.length_cons, List.length_nil]; omega)
     simp only [DT.txt] at g4
     have g5 := wr41 (o ++ [32, 46, 32] ++ atomT q) (by simp only [List.length_append, List.length_cons, List.length_nil]; omega)
     simp only [List.append_assoc, List.cons_append, List.nil_append] at g5
     simp (maxSteps := 1000000) (disch := omega) [ip, wr, k4, g3, g4, g5]
   ·simp
theorem wDs_le : ∀ (cs : List KDatum) (M : Nat), (∀ c ∈ cs, (atomT c).length ≤ 25 + c.s.size) → wDs cs ≤ 30 * cs.length + KDatum.us cs
 | [], M, _ => by simp [wDs, KDatum.us]
 | c :: cs, M, h => by
  have h1 := h c (by simp)
  have h2 := wDs_le cs M fun x hx => h x (by simp [hx])
  simp only [wDs, wD, KDatum.us, KDatum.w, List.length_cons]
  omega
theorem atomT_le {c : KDatum} (h0 : -9223372036854775808 ≤ c.n) (h1 : c.n ≤ 9223372036854775807) : (atomT c).length ≤ 25 + c.s.size := by
 unfold atomT
 split
 ·have h := (decDigits_len 19 c.n.natAbs).mpr (by omega)
  unfold itoa
  split
  ·rw [List.length_cons]; omega
  ·rw [show c.n.toNat = c.n.natAbs from by omega]; omega
 ·split
  ·split <;> simp only [List.length_cons, List.length_nil] <;> omega
  ·split
   ·simp
   ·split <;> simp only [List.length_cons, List.length_nil] <;> omega
theorem tops_len {d : KData} (hd : ShowOk d) (h : Whole d) (hus : KDatum.us d.cells ≤ 1048576) (ht : (d.tops.length : Int) ≤ 1048576) : (topsT d.cells d.tops).length ≤ 100000000 := by
 have h1 := topsT_le h
 have h2 := wDs_le d.cells 0 fun c hc => atomT_le (hd.hn c hc).1 (hd.hn c hc).2
 have h3 := hd.hl
 omega
theorem topsT_snoc {d : KData} {i : Nat} {x : Int} (hx : d.tops[i]? = some x) : topsT d.cells (d.tops.take (i + 1)) = topsT d.cells (d.tops.take i) ++ (txtAt d.cells x ++ [10]) := by
 unfold topsT
 rw [List.take_add_one, hx, List.flatMap_append]
 simp
theorem take_len {d : KData} (h : Whole d) (i : Nat) : (topsT d.cells (d.tops.take i)).length ≤ (topsT d.cells d.tops).length := topsT_take h i
theorem implShow {d : KData} (hd : ShowOk d) (hus : KDatum.us d.cells ≤ 1048576) (ht : (d.tops.length : Int) ≤ 1048576) : A 14 [.agg (KData.row false d)] = some ([.leaf (.str ⟨(showB d).toArray⟩)], [.gone]) := by
 have hw := implWhole d hd.hl ht
 refine run_impl_Show ?_
 unfold showB
 by_cases hwh : wholeB d = true
 ·rw [hwh] at hw
  rw [if_pos hwh]
  have hW := whole_of hwh
  have hL := tops_len hd hW hus ht
  simp (maxSteps := 1000000) (disch := omega) [ip, wr, impl_Show.b, hw]
  refine at_fold (fun e i (s : List UInt8) => (e.put 11 (.v (.leaf (.int .i64 i)))).put 3 (.v (bldR s))) impl_Show.l0.eq_1 (fun s x => s ++ (txtAt d.cells x ++ [10])) d.tops [] (by simp) ?_ (fun i x hx hi ih => ?_)
  ·have e : ∀ (ts : List Int) (s : List UInt8), ts.foldl (fun s x => s ++ (txtAt d.cells x ++ [10])) s = s ++ topsT d.cells ts := by
    intro ts
    induction ts with
    | nil => intro s; simp [topsT]
    | cons x ts ih => intro s; rw [List.foldl_cons, ih]; simp [topsT]
   rw [e, List.nil_append]
   have g := bStr (topsT d.cells d.tops)
   generalize topsT d.cells d.tops = o at *
   simp (maxSteps := 1000000) (disch := omega) [ip, wr, g]
  ·have e : ∀ (ts : List Int) (s : List UInt8), ts.foldl (fun s x => s ++ (txtAt d.cells x ++ [10])) s = s ++ topsT d.cells ts := by
    intro ts
    induction ts with
    | nil => intro s; simp [topsT]
    | cons x ts ih => intro s; rw [List.foldl_cons, ih]; simp [topsT]
   rw [e, List.nil_append] at ih ⊢
   obtain ⟨t, hT⟩ := whole_tree hW (List.mem_of_getElem? hx)
   have h1 := take_len hW (i + 1)
   rw [topsT_snoc hx] at h1
   simp only [List.length_append, List.length_cons, List.length_nil] at h1
   generalize topsT d.cells (d.tops.take i) = o at *
   have e2 := txtAt_of hT
   rw [e2] at ih h1
   have g1 := show_all hd (t.size + 1) t (Nat.lt_succ_self _) x o hT (by omega)
   have g2 := wr10 (o ++ t.txt false) (by simp only [List.length_append]; omega)
   simp (maxSteps := 1000000) (disch := omega) [ip, wr, hi, hx, at_get hx, g1, g2]
   refine run_env ih ?_
   simp
 ·rw [if_neg hwh]
  rw [Bool.not_eq_true] at hwh
  rw [hwh] at hw
  simp (maxSteps := 1000000) (disch := omega) [ip, wr, impl_Show.b, hw]
end Go.Proofs.YtjcjodcpiickaaaGreatDoor.RA
