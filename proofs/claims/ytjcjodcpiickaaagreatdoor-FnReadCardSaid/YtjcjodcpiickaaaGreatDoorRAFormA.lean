/- What the reference draws: texts of data. -/
import Derived.Test.YtjcjodcpiickaaaGreatDoorRADrawA
import Derived.Test.YtjcjodcpiickaaaGreatDoorRANumA
namespace Go.Proofs.YtjcjodcpiickaaaGreatDoor.RA
open Go Go.VS Go.Lib
set_option maxRecDepth 10000
set_option maxHeartbeats 8000000
set_option linter.unusedSimpArgs false
set_option linter.unusedVariables false
theorem szmk (d : Array UInt8) : (ByteArray.mk d).size = d.size := rfl
theorem pickV5 {b : List UInt8} (hb : (b.length : Int) ≤ 1000000000) {i : Int} (h : Int) (h0 : 0 ≤ i) : ∃ (x : ByteArray) (i' : Nat) (h' : Int), x.size ≤ 1 ∧ A 127 [.box (curR b i h), .leaf (.sl false 1 [[.str ⟨#[120]⟩], [.str ⟨#[121]⟩], [.str ⟨#[102]⟩], [.str ⟨#[103]⟩], [.str ⟨#[107]⟩]])] = some ([.leaf (.str x)], [.box (curR b i' h'), .gone]) :=
 ⟨_, _, _, (by decide +kernel : ∀ x ∈ ([⟨#[120]⟩, ⟨#[121]⟩, ⟨#[102]⟩, ⟨#[103]⟩, ⟨#[107]⟩] : List ByteArray), x.size ≤ 1) _ (pickP_in hb (h := h) h0 (by decide)), l1Pick hb (h := h) h0 (l := [⟨#[120]⟩, ⟨#[121]⟩, ⟨#[102]⟩, ⟨#[103]⟩, ⟨#[107]⟩]) (by decide)⟩
theorem pickA10 {b : List UInt8} (hb : (b.length : Int) ≤ 1000000000) {i : Int} (h : Int) (h0 : 0 ≤ i) : ∃ (x : ByteArray) (i' : Nat) (h' : Int), x.size ≤ 3 ∧ A 127 [.box (curR b i h), .leaf (.sl false 1 [[.str ⟨#[49]⟩], [.str ⟨#[55]⟩], [.str ⟨#[45, 51]⟩], [.str ⟨#[35, 116]⟩], [.str ⟨#[35, 102]⟩], [.str ⟨#[120]⟩], [.str ⟨#[121]⟩], [.str ⟨#[39, 97]⟩], [.str ⟨#[39, 40, 41]⟩], [.str ⟨#[52, 48]⟩]])] = some ([.leaf (.str x)], [.box (curR b i' h'), .gone]) :=
 ⟨_, _, _, (by decide +kernel : ∀ x ∈ ([⟨#[49]⟩, ⟨#[55]⟩, ⟨#[45, 51]⟩, ⟨#[35, 116]⟩, ⟨#[35, 102]⟩, ⟨#[120]⟩, ⟨#[121]⟩, ⟨#[39, 97]⟩, ⟨#[39, 40, 41]⟩, ⟨#[52, 48]⟩] : List ByteArray), x.size ≤ 3) _ (pickP_in hb (h := h) h0 (by decide)), l1Pick hb (h := h) h0 (l := [⟨#[49]⟩, ⟨#[55]⟩, ⟨#[45, 51]⟩, ⟨#[35, 116]⟩, ⟨#[35, 102]⟩, ⟨#[120]⟩, ⟨#[121]⟩, ⟨#[39, 97]⟩, ⟨#[39, 40, 41]⟩, ⟨#[52, 48]⟩]) (by decide)⟩
theorem pickO7 {b : List UInt8} (hb : (b.length : Int) ≤ 1000000000) {i : Int} (h : Int) (h0 : 0 ≤ i) : ∃ (x : ByteArray) (i' : Nat) (h' : Int), x.size ≤ 4 ∧ A 127 [.box (curR b i h), .leaf (.sl false 1 [[.str ⟨#[43]⟩], [.str ⟨#[45]⟩], [.str ⟨#[42]⟩], [.str ⟨#[60]⟩], [.str ⟨#[61]⟩], [.str ⟨#[99, 111, 110, 115]⟩], [.str ⟨#[101, 113, 63]⟩]])] = some ([.leaf (.str x)], [.box (curR b i' h'), .gone]) :=
 ⟨_, _, _, (by decide +kernel : ∀ x ∈ ([⟨#[43]⟩, ⟨#[45]⟩, ⟨#[42]⟩, ⟨#[60]⟩, ⟨#[61]⟩, ⟨#[99, 111, 110, 115]⟩, ⟨#[101, 113, 63]⟩] : List ByteArray), x.size ≤ 4) _ (pickP_in hb (h := h) h0 (by decide)), l1Pick hb (h := h) h0 (l := [⟨#[43]⟩, ⟨#[45]⟩, ⟨#[42]⟩, ⟨#[60]⟩, ⟨#[61]⟩, ⟨#[99, 111, 110, 115]⟩, ⟨#[101, 113, 63]⟩]) (by decide)⟩
theorem pickP7 {b : List UInt8} (hb : (b.length : Int) ≤ 1000000000) {i : Int} (h : Int) (h0 : 0 ≤ i) : ∃ (x : ByteArray) (i' : Nat) (h' : Int), x.size ≤ 5 ∧ A 127 [.box (curR b i h), .leaf (.sl false 1 [[.str ⟨#[99, 97, 114]⟩], [.str ⟨#[99, 100, 114]⟩], [.str ⟨#[110, 117, 108, 108, 63]⟩], [.str ⟨#[112, 97, 105, 114, 63]⟩], [.str ⟨#[110, 111, 116]⟩], [.str ⟨#[112, 114, 105, 110, 116]⟩], [.str ⟨#[101, 114, 114, 111, 114]⟩]])] = some ([.leaf (.str x)], [.box (curR b i' h'), .gone]) :=
 ⟨_, _, _, (by decide +kernel : ∀ x ∈ ([⟨#[99, 97, 114]⟩, ⟨#[99, 100, 114]⟩, ⟨#[110, 117, 108, 108, 63]⟩, ⟨#[112, 97, 105, 114, 63]⟩, ⟨#[110, 111, 116]⟩, ⟨#[112, 114, 105, 110, 116]⟩, ⟨#[101, 114, 114, 111, 114]⟩] : List ByteArray), x.size ≤ 5) _ (pickP_in hb (h := h) h0 (by decide)), l1Pick hb (h := h) h0 (l := [⟨#[99, 97, 114]⟩, ⟨#[99, 100, 114]⟩, ⟨#[110, 117, 108, 108, 63]⟩, ⟨#[112, 97, 105, 114, 63]⟩, ⟨#[110, 111, 116]⟩, ⟨#[112, 114, 105, 110, 116]⟩, ⟨#[101, 114, 114, 111, 114]⟩]) (by decide)⟩
theorem pickF3 {b : List UInt8} (hb : (b.length : Int) ≤ 1000000000) {i : Int} (h : Int) (h0 : 0 ≤ i) : ∃ (x : ByteArray) (i' : Nat) (h' : Int), x.size ≤ 1 ∧ A 127 [.box (curR b i h), .leaf (.sl false 1 [[.str ⟨#[48]⟩], [.str ⟨#[49]⟩], [.str ⟨#[50]⟩]])] = some ([.leaf (.str x)], [.box (curR b i' h'), .gone]) :=
 ⟨_, _, _, (by decide +kernel : ∀ x ∈ ([⟨#[48]⟩, ⟨#[49]⟩, ⟨#[50]⟩] : List ByteArray), x.size ≤ 1) _ (pickP_in hb (h := h) h0 (by decide)), l1Pick hb (h := h) h0 (l := [⟨#[48]⟩, ⟨#[49]⟩, ⟨#[50]⟩]) (by decide)⟩
theorem pickS3 {b : List UInt8} (hb : (b.length : Int) ≤ 1000000000) {i : Int} (h : Int) (h0 : 0 ≤ i) : ∃ (x : ByteArray) (i' : Nat) (h' : Int), x.size ≤ 5 ∧ A 127 [.box (curR b i h), .leaf (.sl false 1 [[.str ⟨#[10]⟩], [.str ⟨#[32]⟩], [.str ⟨#[10, 59, 32, 99, 10]⟩]])] = some ([.leaf (.str x)], [.box (curR b i' h'), .gone]) :=
 ⟨_, _, _, (by decide +kernel : ∀ x ∈ ([⟨#[10]⟩, ⟨#[32]⟩, ⟨#[10, 59, 32, 99, 10]⟩] : List ByteArray), x.size ≤ 5) _ (pickP_in hb (h := h) h0 (by decide)), l1Pick hb (h := h) h0 (l := [⟨#[10]⟩, ⟨#[32]⟩, ⟨#[10, 59, 32, 99, 10]⟩]) (by decide)⟩
theorem pickT18 {b : List UInt8} (hb : (b.length : Int) ≤ 1000000000) {i : Int} (h : Int) (h0 : 0 ≤ i) : ∃ (x : ByteArray) (i' : Nat) (h' : Int), x.size ≤ 17 ∧ A 127 [.box (curR b i h), .leaf (.sl false 1 [[.str ⟨#[40]⟩], [.str ⟨#[41]⟩], [.str ⟨#[39]⟩], [.str ⟨#[46]⟩], [.str ⟨#[40, 49, 32, 46, 32, 41]⟩], [.str ⟨#[40, 49, 32, 46, 32, 50, 32, 51, 41]⟩], [.str ⟨#[40, 32, 46, 32, 49, 41]⟩], [.str ⟨#[35, 120]⟩], [.str ⟨#[49, 97]⟩], [.str ⟨#[49, 48, 48, 48, 48, 48, 49]⟩], [.str ⟨#[97, 46, 98]⟩], [.str ⟨#[97, 98, 99, 100, 101, 102, 103, 104, 105, 106, 107, 108, 109, 110, 111, 112, 113]⟩], [.str ⟨#[40, 41]⟩], [.str ⟨#[40, 49, 32, 46, 50, 41]⟩], [.str ⟨#[40, 97, 32, 46, 32, 98, 41]⟩], [.str ⟨#[39, 39, 97]⟩], [.str ⟨#[45]⟩], [.str ⟨#[37]⟩]])] = some ([.leaf (.str x)], [.box (curR b i' h'), .gone]) :=
 ⟨_, _, _, (by decide +kernel : ∀ x ∈ ([⟨#[40]⟩, ⟨#[41]⟩, ⟨#[39]⟩, ⟨#[46]⟩, ⟨#[40, 49, 32, 46, 32, 41]⟩, ⟨#[40, 49, 32, 46, 32, 50, 32, 51, 41]⟩, ⟨#[40, 32, 46, 32, 49, 41]⟩, ⟨#[35, 120]⟩, ⟨#[49, 97]⟩, ⟨#[49, 48, 48, 48, 48, 48, 49]⟩, ⟨#[97, 46, 98]⟩, ⟨#[97, 98, 99, 100, 101, 102, 103, 104, 105, 106, 107, 108, 109, 110, 111, 112, 113]⟩, ⟨#[40, 41]⟩, ⟨#[40, 49, 32, 46, 50, 41]⟩, ⟨#[40, 97, 32, 46, 32, 98, 41]⟩, ⟨#[39, 39, 97]⟩, ⟨#[45]⟩, ⟨#[37]⟩] : List ByteArray), x.size ≤ 17) _ (pickP_in hb (h := h) h0 (by decide)), l1Pick hb (h := h) h0 (l := [⟨#[40]⟩, ⟨#[41]⟩, ⟨#[39]⟩, ⟨#[46]⟩, ⟨#[40, 49, 32, 46, 32, 41]⟩, ⟨#[40, 49, 32, 46, 32, 50, 32, 51, 41]⟩, ⟨#[40, 32, 46, 32, 49, 41]⟩, ⟨#[35, 120]⟩, ⟨#[49, 97]⟩, ⟨#[49, 48, 48, 48, 48, 48, 49]⟩, ⟨#[97, 46, 98]⟩, ⟨#[97, 98, 99, 100, 101, 102, 103, 104, 105, 106, 107, 108, 109, 110, 111, 112, 113]⟩, ⟨#[40, 41]⟩, ⟨#[40, 49, 32, 46, 50, 41]⟩, ⟨#[40, 97, 32, 46, 32, 98, 41]⟩, ⟨#[39, 39, 97]⟩, ⟨#[45]⟩, ⟨#[37]⟩]) (by decide)⟩
theorem pickC4 {b : List UInt8} (hb : (b.length : Int) ≤ 1000000000) {i : Int} (h : Int) (h0 : 0 ≤ i) : ∃ (x : ByteArray) (i' : Nat) (h' : Int), x.size ≤ 3 ∧ A 127 [.box (curR b i h), .leaf (.sl false 1 [[.str ⟨#[97, 32, 98]⟩], [.str ⟨#[]⟩], [.str ⟨#[55]⟩], [.str ⟨#[120]⟩]])] = some ([.leaf (.str x)], [.box (curR b i' h'), .gone]) :=
 ⟨_, _, _, (by decide +kernel : ∀ x ∈ ([⟨#[97, 32, 98]⟩, ⟨#[]⟩, ⟨#[55]⟩, ⟨#[120]⟩] : List ByteArray), x.size ≤ 3) _ (pickP_in hb (h := h) h0 (by decide)), l1Pick hb (h := h) h0 (l := [⟨#[97, 32, 98]⟩, ⟨#[]⟩, ⟨#[55]⟩, ⟨#[120]⟩]) (by decide)⟩
theorem below_ex {b : List UInt8} (hb : (b.length : Int) ≤ 1000000000) {i : Int} (h : Int) (h0 : 0 ≤ i) (n : Int) (hn : 0 < n) : ∃ (k : Int) (i' : Nat) (h' : Int), (0 ≤ k ∧ k < n) ∧ A 88 [.box (curR b i h), .leaf (.int .i64 n)] = some ([.leaf (.int .i64 k)], [.box (curR b i' h'), .gone]) :=
 ⟨_, _, _, (belowP_in hb (h := h) h0 n).2 hn, l1Below hb (h := h) h0 n⟩
theorem once_ex {b : List UInt8} (hb : (b.length : Int) ≤ 1000000000) {i : Int} (h : Int) (h0 : 0 ≤ i) (n : Int) : ∃ (k : Bool) (i' : Nat) (h' : Int), A 62 [.box (curR b i h), .leaf (.int .i64 n)] = some ([.leaf (.bool k)], [.box (curR b i' h'), .gone]) :=
 ⟨_, _, _, l1Once hb (h := h) h0 n⟩
def szF : Nat → Nat
 | 0 => 10
 | d + 1 => 3 * szF d + 60
theorem form_ex {b : List UInt8} (hb : (b.length : Int) ≤ 1000000000) : ∀ (d : Nat), d ≤ 3 → ∀ (i h : Int), 0 ≤ i → ∃ (s : ByteArray) (i' : Nat) (h' : Int), s.size ≤ szF d ∧ A 145 [.box (curR b i h), .leaf (.int .i64 d)] = some ([.leaf (.str s)], [.box (curR b i' h'), .gone])
 | 0, _, i, h, h0 => by
  obtain ⟨rs, os, e1, s, i', h', hs, rfl, rfl⟩ : ∃ rs os, A 145 [.box (curR b i h), .leaf (.int .i64 0)] = some (rs, os) ∧ ∃ (s : ByteArray) (i' : Nat) (h' : Int), s.size ≤ szF 0 ∧ rs = [.leaf (.str s)] ∧ os = [.box (curR b i' h'), .gone] := by
   refine runE_spec_l2Form ?_
   obtain ⟨x, i1, h1, z1, e1⟩ := pickV5 hb h h0
   obtain ⟨y, i2, h2, z2, e2⟩ := pickA10 hb (i := i1) h1 (by omega)
   simp (maxSteps := 1000000) (disch := omega) [ip, wr, spec_l2Form.b, e1, e2]
   exact ⟨_, by simp only [szF]; omega, rfl, _, rfl⟩
  exact ⟨s, i', h', hs, e1⟩
 | d + 1, hd, i, h, h0 => by
  have ih := form_ex hb d (by omega)
  obtain ⟨rs, os, e1, s, i', h', hs, rfl, rfl⟩ : ∃ rs os, A 145 [.box (curR b i h), .leaf (.int .i64 ((d + 1 : Nat) : Int))] = some (rs, os) ∧ ∃ (s : ByteArray) (i' : Nat) (h' : Int), s.size ≤ szF (d + 1) ∧ rs = [.leaf (.str s)] ∧ os = [.box (curR b i' h'), .gone] := by
   refine runE_spec_l2Form ?_
   obtain ⟨x, i1, h1, z1, e1⟩ := pickV5 hb h h0
   obtain ⟨e, i2, h2, z2, e2⟩ := ih i1 h1 (by omega)
   obtain ⟨k, i3, h3, z3, e3⟩ := below_ex hb (i := i2) h2 (by omega) 20 (by decide)
   obtain ⟨f, i4, h4, z4, e4⟩ := ih i3 h3 (by omega)
   obtain ⟨g, i5, h5, z5, e5⟩ := ih i4 h4 (by omega)
   obtain ⟨o, i6, h6, z6, e6⟩ := pickO7 hb (i := i3) h3 (by omega)
   obtain ⟨f', i7, h7, z7, e7⟩ := ih i6 h6 (by omega)
   obtain ⟨p, i8, h8, z8, e8⟩ := pickP7 hb (i := i3) h3 (by omega)
   obtain ⟨q, i9, h9, z9, e9⟩ := pickF3 hb (i := i3) h3 (by omega)
   have en : ((d + 1 : Nat) : Int) - 1 = d := by omega
   have en' : (d : Int) + 1 - 1 = d := by omega
   have ec : ((d + 1 : Nat) : Int) = (d : Int) + 1 := by omega
   have ep : ¬ ((d : Int) + 1 ≤ 0) := by omega
   have eb : szF d ≤ 2000 := by
    have : ∀ d : Nat, d ≤ 2 → szF d ≤ 2000 := fun d h => by
     rcases d with _ | _ | _ | d
     ·decide
     ·decide
     ·decide
     ·omega
    exact this d (by omega)
   rw [ec]
   simp (maxSteps := 1000000) (disch := omega) [ip, wr, spec_l2Form.b, e1, e2, e3, e4, e5, e6, e7, e8, e9, en, en', ep, ba_append_size, szmk]
   all_goals repeat' ((first | refine runD_cases (fun hcz => ?_) (fun hcz => ?_) | refine gopB_cases (fun hcz => ?_) (fun hcz => ?_) | refine gopB_drawn (fun hcz => ?_) (fun hcz => ?_)) <;> (try simp only [decide_eq_true_eq, decide_eq_false_iff_not, Bool.not_eq_true', Bool.not_eq_false', Bool.not_eq_true, Bool.not_eq_false] at hcz) <;> (try simp (maxSteps := 1000000) (disch := omega) [ip, wr, hcz, e1, e2, e3, e4, e5, e6, e7, e8, e9, en, en', ep, ba_append_size, szmk]))
   all_goals exact ⟨_, by simp only [szF, ba_append_size, szmk, List.size_toArray, List.length_cons, List.length_nil]; omega, rfl, _, rfl⟩
  exact ⟨s, i', h', hs, e1⟩

theorem tl0 {b : List UInt8} (hb : (b.length : Int) ≤ 1000000000) (ks : List Fr) (Q : VX → Env → Prop) (hq : ∀ (s : ByteArray) (i : Nat) (h : Int), s.size ≤ 5300 → Run G A (.exit 0) [(0, .v (.box (curR b i h))), (5, .v (.leaf (.str s))), (6, .v (.leaf (.int .i64 0))), (13, .v (.leaf (.bool false)))] ks Q) :
  ∀ (n : Nat) (s : ByteArray) (i : Nat) (h : Int), s.size + n * 1060 ≤ 5300 → Run G A (.loop spec_l2Text.l0) [(0, .v (.box (curR b i h))), (5, .v (.leaf (.str s))), (6, .v (.leaf (.int .i64 n)))] ks Q
 | 0, s, i, h, hn => by
  have hq := hq s i h (by omega)
  refine run_loop_at spec_l2Text.l0.eq_1 ?_
  simp (maxSteps := 1000000) (disch := omega) [ip, wr, ]
  exact hq
 | n + 1, s, i, h, hn => by
  have ih := tl0 hb ks Q hq n
  obtain ⟨k, i1, h1, z1, e1⟩ := below_ex hb (i := i) h (by omega) 4 (by decide)
  obtain ⟨k, rfl⟩ : ∃ n : Nat, k = n := ⟨k.toNat, by omega⟩
  obtain ⟨f, i2, h2, z2, e2⟩ := form_ex hb k (by omega) i1 h1 (by omega)
  obtain ⟨g, i3, h3, z3, e3⟩ := pickS3 hb (i := i2) h2 (by omega)
  have zf : szF k ≤ 1050 := by
   have : ∀ d : Nat, d ≤ 3 → szF d ≤ 1050 ∨ d = 3 := fun d h => by
    rcases d with _ | _ | _ | _ | d
    ·exact .inl (by decide)
    ·exact .inl (by decide)
    ·exact .inl (by decide)
    ·exact .inr rfl
    ·omega
   rcases this k (by omega) with h | h
   ·exact h
   ·subst h; decide
  have en : ((n : Int) + 1 - 1) = n := by omega
  refine run_loop_at spec_l2Text.l0.eq_1 ?_
  simp (maxSteps := 1000000) (disch := omega) [ip, wr, e1, e2, e3, en]
  refine run_env (ih (s ++ f ++ g) i3 h3 (by simp only [ba_append_size]; omega)) ?_
  simp
theorem tl1 {b : List UInt8} (ks : List Fr) (Q : VX → Env → Prop) (i : Nat) (h : Int) (hq : ∀ (s : ByteArray), s.size ≤ 5350 → Run G A (.exit 2) [(0, .v (.box (curR b i h))), (5, .v (.leaf (.str s))), (7, .v (.leaf (.int .i64 25))), (36, .v (.leaf (.bool false)))] ks Q) :
  ∀ (d n : Nat) (s : ByteArray), n + d = 25 → s.size + d * 2 ≤ 5350 → Run G A (.loop spec_l2Text.l1) [(0, .v (.box (curR b i h))), (5, .v (.leaf (.str s))), (7, .v (.leaf (.int .i64 n)))] ks Q
 | 0, n, s, hd, hn => by
  have hq := hq s (by omega)
  have hx : (n : Int) = 25 := by omega
  refine run_loop_at spec_l2Text.l1.eq_1 ?_
  simp (maxSteps := 1000000) (disch := omega) [ip, wr, hx]
  exact hq
 | d + 1, n, s, hd, hn => by
  have ih := tl1 ks Q i h hq d (n + 1)
  have hx : (n : Int) < 25 := by omega
  refine run_loop_at spec_l2Text.l1.eq_1 ?_
  simp (maxSteps := 1000000) (disch := omega) [ip, wr, hx, szmk]
  refine run_env (ih (⟨#[40]⟩ ++ s ++ ⟨#[41]⟩) (by omega) (by simp only [ba_append_size, szmk, List.size_toArray, List.length_cons, List.length_nil]; omega)) ?_
  simp
theorem text_ex {b : List UInt8} (hb : (b.length : Int) ≤ 1000000000) (i h most : Int) (h0 : 0 ≤ i) (hm : 0 ≤ most ∧ most ≤ 5) : ∃ (s : ByteArray) (i' : Nat) (h' : Int), s.size ≤ 5400 ∧ A 60 [.box (curR b i h), .leaf (.int .i64 most)] = some ([.leaf (.str s)], [.box (curR b i' h'), .gone]) := by
 obtain ⟨rs, os, e1, s, i', h', hs, rfl, rfl⟩ : ∃ rs os, A 60 [.box (curR b i h), .leaf (.int .i64 most)] = some (rs, os) ∧ ∃ (s : ByteArray) (i' : Nat) (h' : Int), s.size ≤ 5400 ∧ rs = [.leaf (.str s)] ∧ os = [.box (curR b i' h'), .gone] := by
  refine runE_spec_l2Text ?_
  obtain ⟨k, i1, h1, z1, e1⟩ := below_ex hb h h0 (most + 1) (by omega)
  obtain ⟨k, rfl⟩ : ∃ n : Nat, k = n := ⟨k.toNat, by omega⟩
  simp (maxSteps := 1000000) (disch := omega) [ip, wr, spec_l2Text.b, e1]
  refine run_env (tl0 hb _ _ (fun s i2 h2 hs => ?_) k ⟨#[]⟩ i1 h1 (by simp only [szmk, List.size_toArray, List.length_nil]; omega)) (by simp)
  obtain ⟨k2, i3, h3, e2⟩ := once_ex hb (i := i2) h2 (by omega) 8
  obtain ⟨f, i4, h4, z4, e4⟩ := pickT18 hb (i := i3) h3 (by omega)
  obtain ⟨k5, i5, h5, e5⟩ := once_ex hb (i := i3) h3 (by omega) 40
  rcases k2 with _ | _
  ·rcases k5 with _ | _
   ·simp (maxSteps := 1000000) (disch := omega) [ip, wr, e2, e5]
    exact ⟨_, by omega, rfl, _, rfl⟩
   ·simp (maxSteps := 1000000) (disch := omega) [ip, wr, e2, e5]
    refine run_env (tl1 (b := b) _ _ i5 h5 (fun s hs => ?_) 25 0 s rfl (by omega)) (by simp)
    simp (maxSteps := 1000000) (disch := omega) [ip, wr, ]
    exact ⟨_, by omega, rfl, _, rfl⟩
  ·simp (maxSteps := 1000000) (disch := omega) [ip, wr, e2, e4]
   exact ⟨_, by simp only [ba_append_size]; omega, rfl, _, rfl⟩
 exact ⟨s, i', h', hs, e1⟩
def u8T (l : List Int) : List UInt8 := l.map fun n => UInt8.ofNat n.toNat
abbrev intT (l : List Int) : List (List L) := l.map fun n : Int => [L.int .u8 n]
theorem bytesOf_intT : ∀ l : List Int, bytesOf (intT l) = some (u8T l)
 | [] => rfl
 | n :: l => by
  have := bytesOf_intT l
  simp only [intT, List.map_cons, bytesOf] at this ⊢
  rw [this]
  rfl
theorem text_loop (b : List UInt8) (hb : (b.length : Int) ≤ 1000000000) (ks : List Fr) (Q : VX → Env → Prop) (style : Int) (M : Nat) (hM : M ≤ 1000) (hq : ∀ (l : List Int) (i h : Int), 0 ≤ i → l.length ≤ M → Run G A (.exit 0) [(0, .v (.box (curR b i h))), (5, .v (.leaf (.sl true 1 (intT l)))), (6, .v (.leaf (.int .i64 style))), (7, .v (.leaf (.int .i64 0))), (17, .v (.leaf (.bool false)))] ks Q) :
  ∀ (n : Nat) (l : List Int) (i h : Int), 0 ≤ i → l.length + n ≤ M → Run G A (.loop spec_l1Text.l0) [(0, .v (.box (curR b i h))), (5, .v (.leaf (.sl true 1 (intT l)))), (6, .v (.leaf (.int .i64 style))), (7, .v (.leaf (.int .i64 n)))] ks Q
 | 0, l, i, h, h0, hn => by
  have hq := hq l i h h0 (by omega)
  refine run_loop_at spec_l1Text.l0.eq_1 ?_
  simp (maxSteps := 1000000) (disch := omega) [ip, wr, ]
  exact hq
 | n + 1, l, i, h, h0, hn => by
  have ih := text_loop b hb ks Q style M hM hq n
  have e1 := l1Byte hb (h := h) h0
  have hx := byteP_in hb (h := h) h0
  generalize byteP b i h = r at *
  obtain ⟨x, i1, h1⟩ := r
  simp only at e1 hx
  have t2 : x.tmod 2 = x % 2 := Int.tmod_eq_emod_of_nonneg hx.1
  have t4 : x.tmod 4 = x % 4 := Int.tmod_eq_emod_of_nonneg hx.1
  have en : ((n : Int) + 1 - 1) = n := by omega
  have hx0 := hx.1
  have hx1 := hx.2
  refine run_loop_at spec_l1Text.l0.eq_1 ?_
  by_cases s1 : style = 1
  ·simp (maxSteps := 1000000) (disch := omega) [ip, wr, e1, s1, t2, en]
   refine run_env (ih (l ++ [x % 2]) i1 h1 (by omega) (by simp; omega)) ?_
   simp [s1]
  ·by_cases s2 : style = 2
   ·simp (maxSteps := 1000000) (disch := omega) [ip, wr, e1, s2, t4, en]
    refine run_env (ih (l ++ [97 + x % 4]) i1 h1 (by omega) (by simp; omega)) ?_
    simp [s2]
   ·simp (maxSteps := 1000000) (disch := omega) [ip, wr, e1, s1, s2, en]
    refine run_env (ih (l ++ [x]) i1 h1 (by omega) (by simp; omega)) ?_
    simp
theorem l1Text_ex (b : List UInt8) (hb : (b.length : Int) ≤ 1000000000) (i h : Int) (most : Nat) (hm : most ≤ 1000) (h0 : 0 ≤ i) : ∃ r : ByteArray × Nat × Int, r.1.size ≤ most ∧ A 146 [.box (curR b i h), .leaf (.int .i64 most)] = some ([.leaf (.str r.1)], [.box (curR b r.2.1 r.2.2), .gone]) := by
 obtain ⟨rs, os, e1, s, i', h', hs, rfl, rfl⟩ : ∃ rs os, A 146 [.box (curR b i h), .leaf (.int .i64 most)] = some (rs, os) ∧ ∃ (s : ByteArray) (i' : Nat) (h' : Int), s.size ≤ most ∧ rs = [.leaf (.str s)] ∧ os = [.box (curR b i' h'), .gone] := by
  refine runE_spec_l1Text ?_
  have e1 := l1Below hb (h := h) h0 4
  generalize belowP b i h 4 = r at *
  obtain ⟨style, i1, h1⟩ := r
  have e2 := l1Below hb (i := i1) (h := h1) (by omega) ((most : Int) + 1)
  have hx := (belowP_in hb (i := i1) (h := h1) (by omega) ((most : Int) + 1)).2 (by omega)
  generalize belowP b i1 h1 ((most : Int) + 1) = r2 at *
  obtain ⟨n, i2, h2⟩ := r2
  simp only at e1 e2 hx
  simp (maxSteps := 1000000) (disch := omega) [ip, wr, spec_l1Text.b, e1, e2]
  refine run_env (text_loop b hb _ _ style most hm (fun l i h h0 hl => ?_) n.toNat [] i2 h2 (by omega) (by simp; omega)) ?_
  ·have e3 := bytesOf_intT l
   have hu : (u8T l).length ≤ most := by simp [u8T]; omega
   have hi : ((i.toNat : Nat) : Int) = i := by omega
   generalize u8T l = R at *
   simp (maxSteps := 1000000) (disch := omega) [ip, wr, e3]
   exact ⟨_, (by simpa using hu), rfl, i.toNat, hi.symm⟩
  ·simp
   omega
 exact ⟨(s, i', h'), hs, e1⟩
theorem spoil_ex {b : List UInt8} (hb : (b.length : Int) ≤ 1000000000) (i h : Int) (s : ByteArray) (hs : s.size ≤ 10000) (h0 : 0 ≤ i) : ∃ (t : ByteArray) (i' : Nat) (h' : Int), t.size ≤ 10010 ∧ A 63 [.box (curR b i h), .leaf (.str s)] = some ([.leaf (.str t)], [.box (curR b i' h'), .gone]) := by
 obtain ⟨rs, os, e1, t, i', h', ht, rfl, rfl⟩ : ∃ rs os, A 63 [.box (curR b i h), .leaf (.str s)] = some (rs, os) ∧ ∃ (t : ByteArray) (i' : Nat) (h' : Int), t.size ≤ 10010 ∧ rs = [.leaf (.str t)] ∧ os = [.box (curR b i' h'), .gone] := by
  refine runE_spec_l1Spoil ?_
  by_cases hz : (s.size : Int) = 0
  ·obtain ⟨r, hr3, hr⟩ := l1Text_ex b hb i h 3 (by decide) h0
   have hz' : s.size = 0 := by omega
   have hr : A 146 [.box (curR b i h), .leaf (.int .i64 3)] = some ([.leaf (.str r.1)], [.box (curR b r.2.1 r.2.2), .gone]) := hr
   generalize r.1 = r1 at *
   simp (maxSteps := 1000000) (disch := omega) [ip, wr, spec_l1Spoil.b, hz, hz', hr]
   exact ⟨_, by omega, rfl, _, rfl⟩
  ·have hz' : ¬ s.size = 0 := by omega
   have be := fun (i h : Int) (h0 : 0 ≤ i) => l1Below hb (h := h) h0
   have by_ := fun (i h : Int) (h0 : 0 ≤ i) => l1Byte hb (h := h) h0
   have hx := (belowP_in hb (h := h) h0 (s.size : Int)).2 (by omega)
   have e1 := l1Below hb (h := h) h0 (s.size : Int)
   generalize belowP b i h (s.size : Int) = r at *
   obtain ⟨k, i1, h1⟩ := r
   simp only at hx e1
   obtain ⟨hx0, hx1⟩ := hx
   have hkn : k.toNat < s.size := by omega
   have hd : s.data[k.toNat]? = some (s.data[k.toNat]'hkn) := Array.getElem?_eq_getElem hkn
   generalize s.data[k.toNat]'hkn = y at hd
   simp (maxSteps := 1000000) (disch := omega) [ip, wr, spec_l1Spoil.b, e1, be, by_, hz, hz', hx0, hx1, hd, hkn]
   all_goals repeat' ((first | refine runD_cases (fun hcz => ?_) (fun hcz => ?_) | refine gopB_cases (fun hcz => ?_) (fun hcz => ?_) | refine gopB_drawn (fun hcz => ?_) (fun hcz => ?_)) <;> (try simp only [decide_eq_true_eq, decide_eq_false_iff_not, Bool.not_eq_true', Bool.not_eq_false', Bool.not_eq_true, Bool.not_eq_false] at hcz) <;> (try simp (maxSteps := 1000000) (disch := omega) [ip, wr, hcz, e1, be, by_, hz, hz', hx0, hx1, hd, hkn]))
   all_goals exact ⟨_, by simp only [ba_append_size, ByteArray.size_extract, szmk, List.size_toArray, List.length_cons, List.length_nil]; omega, rfl, _, rfl⟩
 exact ⟨t, i', h', ht, e1⟩
abbrev codeR (b : List UInt8) : CV := .leaf (.sl false 1 (b.map fun x : UInt8 => [L.int .u8 x.toNat]))
theorem drawRead (b : List UInt8) (hb : (b.length : Int) ≤ 1000000000) : ∃ s : ByteArray, s.size ≤ 10010 ∧ A 11 [codeR b] = some ([.leaf (.str s)], [.gone]) := by
 obtain ⟨h, e1⟩ := l1New b hb
 obtain ⟨m, hm, e2⟩ := l1Size b 5 (by decide) hb
 obtain ⟨s, i2, h2, z2, e3⟩ := text_ex hb 0 h m (Int.le_refl _) hm
 obtain ⟨k, i4, h4, e4⟩ := once_ex hb (i := i2) h2 (by omega) 5
 obtain ⟨t, i5, h5, z5, e5⟩ := spoil_ex hb (i := i4) h4 s (by omega) (by omega)
 rcases k with _ | _
 ·refine ⟨s, by omega, run_spec_DrawRead ?_⟩
  simp (maxSteps := 1000000) (disch := omega) [ip, wr, spec_DrawRead.b, e1, e2, e3, e4]
 ·refine ⟨t, by omega, run_spec_DrawRead ?_⟩
  simp (maxSteps := 1000000) (disch := omega) [ip, wr, spec_DrawRead.b, e1, e2, e3, e4, e5]
end Go.Proofs.YtjcjodcpiickaaaGreatDoor.RA
