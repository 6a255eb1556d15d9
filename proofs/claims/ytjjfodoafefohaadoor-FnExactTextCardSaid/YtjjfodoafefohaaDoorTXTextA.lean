/- The text of a value: the program's and the reference's tell the same. -/
import Derived.Test.YtjjfodoafefohaaDoorTXAsListA
namespace Go.Proofs.YtjjfodoafefohaaDoor.TX
open Go Go.VS Go.Lib
set_option maxRecDepth 10000
set_option maxHeartbeats 8000000
set_option linter.unusedSimpArgs false
set_option linter.unusedVariables false
abbrev bytesR (l : List UInt8) : List (List L) := l.map fun b => [L.int .u8 b.toNat]
def bs (s : ByteArray) : List UInt8 := s.data.toList
theorem strRows_bs (s : ByteArray) : strRows s = bytesR (bs s) := rfl
theorem bs_length (s : ByteArray) : (bs s).length = s.size := by simp [bs]
@[simp] theorem freeRR_append : ∀ a b : List (List L), freeRR (a ++ b) = (freeRR a && freeRR b)
  | [], b => by simp [freeRR]
  | r :: a, b => by simp only [List.cons_append, freeRR, freeRR_append a b, Bool.and_assoc]
@[simp] theorem freeRR_bytes : ∀ l : List UInt8, freeRR (l.map fun b => [L.int .u8 b.toNat]) = true
  | [] => rfl
  | x :: l => by simp only [List.map_cons, freeRR, freeRR_bytes l, VS.freeR, L.free, Bool.and_self]
@[simp] theorem freezeRR_bytes : ∀ l : List UInt8, freezeRR (l.map fun b => [L.int .u8 b.toNat]) = l.map fun b => [L.int .u8 b.toNat]
  | [] => rfl
  | x :: l => by simp only [List.map_cons, freezeRR, freezeRR_bytes l, VS.freezeR, L.freeze]
def cellS (h : List KCell) (n : Int) : ByteArray := match h[n.toNat]? with
  | some c => c.s
  | none => ⟨#[]⟩
/-- What stands behind the first part of a list. -/
def tailT (h : List KCell) (f : KValue → List UInt8 → List UInt8) : Nat → KValue → List UInt8 → KValue × List UInt8
  | 0, r, out => (r, out)
  | d + 1, r, out => if r.kind = 5 ∧ out.length < 100000 then tailT h f d (partsB h r).2 (f (partsB h r).1 (out ++ [32])) else (r, out)
def endT (f : KValue → List UInt8 → List UInt8) (q : KValue × List UInt8) : List UInt8 := (if q.1.kind = 3 then q.2 else f q.1 (q.2 ++ [32, 46, 32])) ++ [41]
/-- The text of a value behind bytes. -/
def tellV (h : List KCell) : Nat → KValue → List UInt8 → List UInt8
  | 0, _, out => out
  | d + 1, v, out => if 100000 ≤ out.length then out else
    if v.kind = 1 then out ++ itoa v.n else
    if v.kind = 2 then out ++ (if v.n = 1 then [35, 116] else [35, 102]) else
    if v.kind = 3 then out ++ [40, 41] else
    if v.kind = 4 then out ++ bs v.s else
    if v.kind = 6 then out ++ [102, 110] else
    if v.kind = 7 then out ++ (35 :: bs (cellS h v.n)) else
    endT (tellV h d) (tailT h (tellV h d) d (partsB h v).2 (tellV h d (partsB h v).1 (out ++ [40])))
theorem itoa_length {n : Int} (h1 : -1000000 ≤ n) (h2 : n ≤ 1000000) : (itoa n).length ≤ 20 := by
  have := (itoa_len n (by omega) (by omega)).1
  omega
theorem tail_length {h : List KCell} (hh : heapB h = true) {f : KValue → List UInt8 → List UInt8} {B : Nat} (hB : 100001 ≤ B) (hf : ∀ v o, valB h v = true → (f v o).length ≤ max o.length B) : ∀ (k : Nat) (r : KValue) (out : List UInt8), valB h r = true → valB h (tailT h f k r out).1 = true ∧ (tailT h f k r out).2.length ≤ max out.length B
  | 0, r, out, hr => ⟨hr, Nat.le_max_left _ _⟩
  | k + 1, r, out, hr => by
    unfold tailT
    split
    · rename_i hc
      obtain ⟨c, a, b, p⟩ := pair_of hh hr hc.1
      rw [p.parts]
      have h1 := hf a (out ++ [32]) p.va
      have h2 := tail_length hh hB hf k b (f a (out ++ [32])) p.vb
      refine ⟨h2.1, ?_⟩
      have h3 := h2.2
      simp only [List.length_append, List.length_cons, List.length_nil] at h1
      simp only
      omega
    · exact ⟨hr, Nat.le_max_left _ _⟩
theorem tell_length {h : List KCell} (hh : heapB h = true) (hu : KCell.us h ≤ 1048576) : ∀ (d : Nat) (v : KValue) (out : List UInt8), valB h v = true → (tellV h d v out).length ≤ max out.length (1200000 + 4 * d)
  | 0, v, out, hv => Nat.le_max_left _ _
  | d + 1, v, out, hv => by
    unfold tellV
    split
    · exact Nat.le_max_left _ _
    · rename_i hfull
      split
      · rename_i k
        have : -1000000 ≤ v.n ∧ v.n ≤ 1000000 := by
          unfold valB at hv
          simp [k, within] at hv
          exact hv.1
        have := itoa_length this.1 this.2
        rw [List.length_append]
        omega
      · split
        · rw [List.length_append]; split <;> simp <;> omega
        · split
          · simp; omega
          · split
            · rename_i k
              have hs : v.s.size ≤ 16 := by
                unfold valB at hv
                simp [k] at hv
                exact sym_size hv.2
              rw [List.length_append, bs_length]
              omega
            · split
              · simp; omega
              · split
                · have hs : (cellS h v.n).size ≤ 1048576 := by
                    unfold cellS
                    split
                    · rename_i c hc
                      have := cells_at hc
                      simp only [KCell.w] at this
                      omega
                    · decide
                  rw [List.length_append, List.length_cons, bs_length]
                  omega
                · rename_i k1 k2 k3 k4 k6 k7
                  have k5 : v.kind = 5 := by
                    unfold valB at hv
                    simp [k1, k2, k3, k4, k6, k7] at hv
                    exact hv.1
                  obtain ⟨c, a, b, p⟩ := pair_of hh hv k5
                  rw [p.parts]
                  simp only
                  have ih := tell_length hh hu d
                  have h1 := ih a (out ++ [40]) p.va
                  have h2 := tail_length hh (B := 1200000 + 4 * d) (by omega) ih d b (tellV h d a (out ++ [40])) p.vb
                  generalize tailT h (tellV h d) d b (tellV h d a (out ++ [40])) = q at *
                  unfold endT
                  simp only [List.length_append, List.length_cons, List.length_nil] at h1
                  split
                  · simp only [List.length_append, List.length_cons, List.length_nil]
                    omega
                  · have h3 := ih q.1 (q.2 ++ [32, 46, 32]) h2.1
                    simp only [List.length_append, List.length_cons, List.length_nil] at h3 ⊢
                    omega
theorem implDec (n : Int) (h0 : -9223372036854775808 ≤ n) (h1 : n ≤ 9223372036854775807) : A 60 [.leaf (.int .i64 n)] = some ([.leaf (.str (str (itoa n)))], [.gone]) := by
  have h := P_strconv_Itoa (cs := [.leaf (.int .i64 n)]) (r := ([.leaf (.str (str (itoa n)))], [.gone])) (by simp only [prim_strconv_Itoa, runItoa]; rw [if_pos ⟨h0, h1⟩]; rfl)
  refine run_impl_Dec ?_
  simp (maxSteps := 1000000) (disch := omega) [if_pos, if_neg, wrap_i64, wrap_u8, impl_Dec.b, h]
theorem boolText (b : Bool) : A 61 [.leaf (.bool b)] = some ([.leaf (.str (if b then ⟨#[35, 116]⟩ else ⟨#[35, 102]⟩))], [.gone]) := by
  refine run_impl_boolText ?_
  cases b
  · simp (maxSteps := 1000000) (disch := omega) [if_pos, if_neg, wrap_i64, wrap_u8, impl_boolText.b]
  · simp (maxSteps := 1000000) (disch := omega) [if_pos, if_neg, wrap_i64, wrap_u8, impl_boolText.b]
theorem tellerPut (h : List KCell) (out : List UInt8) (s : ByteArray) (hl : (out.length : Int) + s.size ≤ 100000000) : A 59 [.box [KCell.sl false h, .sl true 1 (bytesR out)], .leaf (.str s)] = some ([], [.box [KCell.sl false h, .sl true 1 (bytesR (out ++ bs s))], .gone]) := by
  refine run_impl_teller_put ?_
  simp (maxSteps := 1000000) (disch := omega) [if_pos, if_neg, wrap_i64, wrap_u8, impl_teller_put.b, strRows_bs]
theorem tellerFull (h : List KCell) (out : List UInt8) (hl : (out.length : Int) ≤ 100000000) : A 58 [.box [KCell.sl false h, .sl true 1 (bytesR out)]] = some ([.leaf (.bool (decide (100000 ≤ (out.length : Int))))], [.box [KCell.sl false h, .sl true 1 (bytesR out)]]) := by
  refine run_impl_teller_isFull ?_
  simp (maxSteps := 1000000) (disch := omega) [if_pos, if_neg, wrap_i64, wrap_u8, impl_teller_isFull.b]
/-- A right value of a right heap, not too deep. -/
structure Fits (h : List KCell) : Prop where
  hh : heapB h = true
  hl : (h.length : Int) ≤ 300
  hu : KCell.us h ≤ 1048576
theorem tell_len' {h : List KCell} (hF : Fits h) {d : Nat} (hd : d ≤ 302) {v : KValue} {out : List UInt8} (hv : valB h v = true) (ho : out.length ≤ 1202100) : (tellV h d v out).length ≤ 1202100 := by
  have := tell_length hF.hh hF.hu d v out hv
  omega
theorem tail_ge {h : List KCell} {f : KValue → List UInt8 → List UInt8} {k : Nat} {r : KValue} {o : List UInt8} (hc : ¬ (r.kind = 5 ∧ o.length < 100000)) : tailT h f k r o = (r, o) := by
  cases k with
  | zero => rfl
  | succ k => rw [tailT, if_neg hc]
theorem tail_step {h : List KCell} {f : KValue → List UInt8 → List UInt8} {k : Nat} {r : KValue} {o : List UInt8} {c : KCell} {a b : KValue} (hc : r.kind = 5 ∧ o.length < 100000) (p : IsPair h r c a b) : tailT h f (k + 1) r o = tailT h f k b (f a (o ++ [32])) := by
  rw [tailT, if_pos hc, p.parts]
theorem tellerPair {h : List KCell} (hF : Fits h) {d : Nat} (hd : d ≤ 301) (ihV : ∀ (v : KValue) (out : List UInt8), rank v < d → valB h v = true → out.length ≤ 1250000 → A 48 [.box [KCell.sl false h, .sl true 1 (bytesR out)], .agg (KValue.row false v)] = some ([], [.box [KCell.sl false h, .sl true 1 (bytesR (tellV h d v out))], .gone]))
    (c : KCell) (a b : KValue) (hvals : c.vals = [a, b]) (ha : valB h a = true) (hb : valB h b = true) (ra : rank a < d) (rb : rank b < d) (out : List UInt8) (ho : out.length < 100000) :
    A 62 [.box [KCell.sl false h, .sl true 1 (bytesR out)], .agg (KCell.row false c)] = some ([], [.box [KCell.sl false h, .sl true 1 (bytesR (endT (tellV h d) (tailT h (tellV h d) d b (tellV h d a (out ++ [40])))))], .gone]) := by
  have s40 : bs ⟨#[40]⟩ = [40] := rfl
  have s32 : bs ⟨#[32]⟩ = [32] := rfl
  have s41 : bs ⟨#[41]⟩ = [41] := rfl
  have s3 : bs ⟨#[32, 46, 32]⟩ = [32, 46, 32] := rfl
  have p1 := tellerPut h out ⟨#[40]⟩ (by simp; omega)
  rw [s40] at p1
  have v1 := ihV a (out ++ [40]) ra ha (by simp; omega)
  have l1 := tell_len' hF (d := d) (by omega) ha (out := out ++ [40]) (by simp; omega)
  have put := fun (o : List UInt8) (ho : o.length ≤ 1400000) => tellerPut h o ⟨#[32]⟩ (by simp; omega)
  have put3 := fun (o : List UInt8) (ho : o.length ≤ 1400000) => tellerPut h o ⟨#[32, 46, 32]⟩ (by simp; omega)
  have put1 := fun (o : List UInt8) (ho : o.length ≤ 1400000) => tellerPut h o ⟨#[41]⟩ (by simp; omega)
  rw [s32] at put
  rw [s3] at put3
  rw [s41] at put1
  simp at p1 v1 put put3 put1
  generalize hR : tailT h (tellV h d) d b (tellV h d a (out ++ [40])) = R
  refine run_impl_teller_pair ?_
  simp (maxSteps := 1000000) (disch := omega) [if_pos, if_neg, wrap_i64, wrap_u8, impl_teller_pair.b, hvals, p1, v1]
  refine at_while (σ := KValue × KCell × List UInt8) (fun e s => ((e.put 3 (.v (.box (KCell.row false s.2.1)))).put 4 (.v (.box (KValue.row false s.1)))).put 0 (.v (.box [KCell.sl false h, .sl true 1 (bytesR s.2.2)]))) impl_teller_pair.l0.eq_1 (fun s => rank s.1) (fun s => valB h s.1 = true ∧ rank s.1 < d ∧ s.2.2.length ≤ 1202100 ∧ ∃ k, rank s.1 < k ∧ tailT h (tellV h d) k s.1 s.2.2 = R) (b, c, tellV h d a (out ++ [40])) (by simp [hvals]) ⟨hb, rb, l1, d, rb, hR⟩ ?_
  rintro ⟨r, c', o⟩ ⟨i1, i0, i2, k, i3, i4⟩ ih
  simp only at i0 i1 i2 i3 i4 ih ⊢
  have full := tellerFull h o (by omega)
  have w1 := put1 o (by omega)
  have w2 := put3 o (by omega)
  have w3 := ihV r (o ++ [32, 46, 32]) i0 i1 (by simp; omega)
  have w4 : (tellV h d r (o ++ [32, 46, 32])).length ≤ 1300000 := by
    have := tell_length hF.hh hF.hu d r (o ++ [32, 46, 32]) i1
    simp at this
    omega
  have w5 := put1 (tellV h d r (o ++ [32, 46, 32])) (by omega)
  simp at w3
  by_cases hk : r.kind = 5
  · by_cases hfull : o.length < 100000
    · obtain ⟨c2, a2, b2, p⟩ := pair_of hF.hh i1 hk
      obtain ⟨k, rfl⟩ : ∃ k', k = k' + 1 := ⟨k - 1, by omega⟩
      rw [tail_step ⟨hk, hfull⟩ p] at i4
      have g1 : ¬ 100000 ≤ (o.length : Int) := by omega
      rw [decide_eq_false g1] at full
      have q1 := put o (by omega)
      have q2 := ihV a2 (o ++ [32]) (by have := p.ra; omega) p.va (by simp; omega)
      have q3 := tell_len' hF (d := d) (by omega) p.va (out := o ++ [32]) (by simp; omega)
      simp at q2
      have e0 := p.lo
      have e1 := p.get
      have e2 := p.vals
      have e3 : r.n.toNat < h.length := by have := p.hi; omega
      simp (maxSteps := 1000000) (disch := omega) [if_pos, if_neg, wrap_i64, wrap_u8, hk, full, q1, q2, e0, e1, at_get e1, e2, e3]
      refine run_env (ih (b2, c2, tellV h d a2 (o ++ [32])) p.rb ⟨p.vb, by have := p.rb; simp only; omega, q3, k, by have := p.rb; simp only; omega, i4⟩) ?_
      simp [e2]
    · rw [tail_ge (fun hc => hfull hc.2)] at i4
      subst i4
      have g1 : 100000 ≤ (o.length : Int) := by omega
      rw [decide_eq_true g1] at full
      have e : endT (tellV h d) (r, o) = tellV h d r (o ++ [32, 46, 32]) ++ [41] := by simp [endT, hk]
      rw [e]
      simp (maxSteps := 1000000) (disch := omega) [if_pos, if_neg, wrap_i64, wrap_u8, full, w2, w3, w5]
  · rw [tail_ge (fun hc => hk hc.1)] at i4
    subst i4
    by_cases k3 : r.kind = 3
    · have e : endT (tellV h d) (r, o) = o ++ [41] := by simp [endT, k3]
      rw [e]
      simp (maxSteps := 1000000) (disch := omega) [if_pos, if_neg, wrap_i64, wrap_u8, w1]
    · have e : endT (tellV h d) (r, o) = tellV h d r (o ++ [32, 46, 32]) ++ [41] := by simp [endT, k3]
      rw [e]
      simp (maxSteps := 1000000) (disch := omega) [if_pos, if_neg, wrap_i64, wrap_u8, w2, w3, w5]
theorem tellerValue {h : List KCell} (hF : Fits h) : ∀ (d : Nat), d ≤ 302 → ∀ (v : KValue) (out : List UInt8), rank v < d → valB h v = true → out.length ≤ 1250000 → A 48 [.box [KCell.sl false h, .sl true 1 (bytesR out)], .agg (KValue.row false v)] = some ([], [.box [KCell.sl false h, .sl true 1 (bytesR (tellV h d v out))], .gone])
  | 0, _, v, out, hr, _, _ => by omega
  | d + 1, hd, v, out, hr, hv, ho => by
    have ihV := tellerValue hF d (by omega)
    have full := tellerFull h out (by omega)
    refine run_impl_teller_value ?_
    by_cases hfull : 100000 ≤ out.length
    · have g1 : 100000 ≤ (out.length : Int) := by omega
      rw [decide_eq_true g1] at full
      have e : tellV h (d + 1) v out = out := by rw [tellV, if_pos hfull]
      rw [e]
      simp (maxSteps := 1000000) (disch := omega) [if_pos, if_neg, wrap_i64, wrap_u8, impl_teller_value.b, full]
    · have g1 : ¬ 100000 ≤ (out.length : Int) := by omega
      rw [decide_eq_false g1] at full
      rw [tellV, if_neg hfull]
      by_cases k1 : v.kind = 1
      · have hb : -1000000 ≤ v.n ∧ v.n ≤ 1000000 := by
          unfold valB at hv
          simp [k1, within] at hv
          exact hv.1
        have q1 := implDec v.n (by omega) (by omega)
        have q2 := itoa_length hb.1 hb.2
        have q3 := tellerPut h out (str (itoa v.n)) (by rw [str_size]; omega)
        have q4 : bs (str (itoa v.n)) = itoa v.n := by simp [bs, str]
        rw [q4] at q3
        rw [if_pos k1]
        simp (maxSteps := 1000000) (disch := omega) [if_pos, if_neg, wrap_i64, wrap_u8, impl_teller_value.b, full, q1, q3]
      · by_cases k2 : v.kind = 2
        · have q1 := boolText (decide (v.n = 1))
          rw [if_neg k1, if_pos k2]
          by_cases kn : v.n = 1
          · rw [decide_eq_true kn] at q1
            have q3 := tellerPut h out ⟨#[35, 116]⟩ (by simp; omega)
            rw [if_pos kn]
            simp (maxSteps := 1000000) (disch := omega) [if_pos, if_neg, wrap_i64, wrap_u8, impl_teller_value.b, full, kn, q1, q3, show bs ⟨#[35, 116]⟩ = [35, 116] from rfl]
          · rw [decide_eq_false kn] at q1
            have q3 := tellerPut h out ⟨#[35, 102]⟩ (by simp; omega)
            rw [if_neg kn]
            simp (maxSteps := 1000000) (disch := omega) [if_pos, if_neg, wrap_i64, wrap_u8, impl_teller_value.b, full, kn, q1, q3, show bs ⟨#[35, 102]⟩ = [35, 102] from rfl]
        · by_cases k3 : v.kind = 3
          · have q3 := tellerPut h out ⟨#[40, 41]⟩ (by simp; omega)
            rw [if_neg k1, if_neg k2, if_pos k3]
            simp (maxSteps := 1000000) (disch := omega) [if_pos, if_neg, wrap_i64, wrap_u8, impl_teller_value.b, full, q3, show bs ⟨#[40, 41]⟩ = [40, 41] from rfl]
          · by_cases k4 : v.kind = 4
            · have hs : v.s.size ≤ 16 := by
                unfold valB at hv
                simp [k4] at hv
                exact sym_size hv.2
              have q3 := tellerPut h out v.s (by omega)
              rw [if_neg k1, if_neg k2, if_neg k3, if_pos k4]
              simp (maxSteps := 1000000) (disch := omega) [if_pos, if_neg, wrap_i64, wrap_u8, impl_teller_value.b, full, q3]
            · by_cases k6 : v.kind = 6
              · have q3 := tellerPut h out ⟨#[102, 110]⟩ (by simp; omega)
                rw [if_neg k1, if_neg k2, if_neg k3, if_neg k4, if_pos k6]
                simp (maxSteps := 1000000) (disch := omega) [if_pos, if_neg, wrap_i64, wrap_u8, impl_teller_value.b, full, q3, show bs ⟨#[102, 110]⟩ = [102, 110] from rfl]
              · by_cases k7 : v.kind = 7
                · obtain ⟨c, e0, e00, e1, _⟩ := cell_of hv (.inr (.inr k7))
                  have hcs : cellS h v.n = c.s := by simp [cellS, e1]
                  have hcw := cells_at e1
                  have hu := hF.hu
                  simp only [KCell.w] at hcw
                  have q3 := tellerPut h out (⟨#[35]⟩ ++ c.s) (by simp; omega)
                  have q4 : bs (⟨#[35]⟩ ++ c.s) = 35 :: bs c.s := by simp [bs]
                  rw [q4] at q3
                  rw [if_neg k1, if_neg k2, if_neg k3, if_neg k4, if_neg k6, if_pos k7, hcs]
                  simp (maxSteps := 1000000) (disch := omega) [if_pos, if_neg, wrap_i64, wrap_u8, impl_teller_value.b, full, q3, e0, e1, at_get e1]
                · have k5 : v.kind = 5 := by
                    unfold valB at hv
                    simp [k1, k2, k3, k4, k6, k7] at hv
                    exact hv.1
                  obtain ⟨c, a, b, p⟩ := pair_of hF.hh hv k5
                  have q3 := tellerPair hF (d := d) (by omega) ihV c a b p.vals p.va p.vb (by have := p.ra; omega) (by have := p.rb; omega) out (by omega)
                  have e0 := p.lo
                  have e00 := p.hi
                  have e1 := p.get
                  rw [if_neg k1, if_neg k2, if_neg k3, if_neg k4, if_neg k6, if_neg k7, p.parts]
                  simp only
                  simp (maxSteps := 1000000) (disch := omega) [if_pos, if_neg, wrap_i64, wrap_u8, impl_teller_value.b, full, q3, e0, e1, at_get e1]
theorem l6Put {h : List KCell} (hF : Fits h) : ∀ (d : Nat), d ≤ 302 → ∀ (v : KValue) (out : List UInt8), rank v < d → valB h v = true → out.length ≤ 1250000 → A 47 [.leaf (KCell.sl false h), .agg (KValue.row false v), .leaf (.sl true 1 (bytesR out))] = some ([.leaf (.sl true 1 (bytesR (tellV h d v out)))], [.gone, .gone, .gone])
  | 0, _, v, out, hr, _, _ => by omega
  | d + 1, hd, v, out, hr, hv, ho => by
    have ihV := l6Put hF d (by omega)
    refine run_spec_l6Put ?_
    by_cases hfull : 100000 ≤ out.length
    · have g1 : 100000 ≤ (out.length : Int) := by omega
      have e : tellV h (d + 1) v out = out := by rw [tellV, if_pos hfull]
      rw [e]
      simp (maxSteps := 1000000) (disch := omega) [if_pos, if_neg, wrap_i64, wrap_u8, spec_l6Put.b]
    · have g1 : ¬ 100000 ≤ (out.length : Int) := by omega
      rw [tellV, if_neg hfull]
      by_cases k1 : v.kind = 1
      · have hb : -1000000 ≤ v.n ∧ v.n ≤ 1000000 := by
          unfold valB at hv
          simp [k1, within] at hv
          exact hv.1
        have q1 := dec v.n (by omega) (by omega)
        have q2 := itoa_length hb.1 hb.2
        have q3 : (str (itoa v.n)).size = (itoa v.n).length := str_size _
        have q4 : (str (itoa v.n)).data.toList = itoa v.n := by simp [str]
        rw [if_pos k1]
        simp (maxSteps := 1000000) (disch := omega) [if_pos, if_neg, wrap_i64, wrap_u8, spec_l6Put.b, q1, q3, strRows, q4]
      · by_cases k2 : v.kind = 2
        · rw [if_neg k1, if_pos k2]
          by_cases kn : v.n = 1
          · rw [if_pos kn]
            simp (maxSteps := 1000000) (disch := omega) [if_pos, if_neg, wrap_i64, wrap_u8, spec_l6Put.b, strRows]
          · rw [if_neg kn]
            simp (maxSteps := 1000000) (disch := omega) [if_pos, if_neg, wrap_i64, wrap_u8, spec_l6Put.b, strRows]
        · by_cases k3 : v.kind = 3
          · rw [if_neg k1, if_neg k2, if_pos k3]
            simp (maxSteps := 1000000) (disch := omega) [if_pos, if_neg, wrap_i64, wrap_u8, spec_l6Put.b, strRows]
          · by_cases k4 : v.kind = 4
            · have hs : v.s.size ≤ 16 := by
                unfold valB at hv
                simp [k4] at hv
                exact sym_size hv.2
              rw [if_neg k1, if_neg k2, if_neg k3, if_pos k4]
              simp (maxSteps := 1000000) (disch := omega) [if_pos, if_neg, wrap_i64, wrap_u8, spec_l6Put.b, strRows, bs]
            · by_cases k6 : v.kind = 6
              · rw [if_neg k1, if_neg k2, if_neg k3, if_neg k4, if_pos k6]
                simp (maxSteps := 1000000) (disch := omega) [if_pos, if_neg, wrap_i64, wrap_u8, spec_l6Put.b, strRows]
              · by_cases k7 : v.kind = 7
                · obtain ⟨c, e0, e00, e1, _⟩ := cell_of hv (.inr (.inr k7))
                  have hcs : cellS h v.n = c.s := by simp [cellS, e1]
                  have hcw := cells_at e1
                  have hu := hF.hu
                  simp only [KCell.w] at hcw
                  rw [if_neg k1, if_neg k2, if_neg k3, if_neg k4, if_neg k6, if_pos k7, hcs]
                  simp (maxSteps := 1000000) (disch := omega) [if_pos, if_neg, wrap_i64, wrap_u8, spec_l6Put.b, e0, e1, at_get e1, strRows, bs]
                · have k5 : v.kind = 5 := by
                    unfold valB at hv
                    simp [k1, k2, k3, k4, k6, k7] at hv
                    exact hv.1
                  obtain ⟨c, a, b, p⟩ := pair_of hF.hh hv k5
                  have e0 := p.lo
                  have e00 := p.hi
                  have e1 := p.get
                  have e2 := p.vals
                  have ra := p.ra
                  have rb := p.rb
                  have v1 := ihV a (out ++ [40]) (by omega) p.va (by simp; omega)
                  have l1 := tell_len' hF (d := d) (by omega) p.va (out := out ++ [40]) (by simp; omega)
                  rw [if_neg k1, if_neg k2, if_neg k3, if_neg k4, if_neg k6, if_neg k7, p.parts]
                  simp at v1
                  generalize hR : tailT h (tellV h d) d b (tellV h d a (out ++ [40])) = R
                  simp (maxSteps := 1000000) (disch := omega) [if_pos, if_neg, wrap_i64, wrap_u8, spec_l6Put.b, e0, e1, at_get e1, e2, v1]
                  refine at_while (σ := KValue × List UInt8) (fun e s => (e.put 7 (.v (.box (KValue.row false s.1)))).put 2 (.v (.leaf (.sl true 1 (bytesR s.2))))) spec_l6Put.l0.eq_1 (fun s => rank s.1) (fun s => valB h s.1 = true ∧ rank s.1 < d ∧ s.2.length ≤ 1202100 ∧ ∃ k, rank s.1 < k ∧ tailT h (tellV h d) k s.1 s.2 = R) (b, tellV h d a (out ++ [40])) (by simp) ⟨p.vb, by simp only; omega, l1, d, by simp only; omega, hR⟩ ?_
                  rintro ⟨r, o⟩ ⟨i1, i0, i2, k, i3, i4⟩ ih
                  simp only at i0 i1 i2 i3 i4 ih ⊢
                  have w3 := ihV r (o ++ [32, 46, 32]) i0 i1 (by simp; omega)
                  have w4 : (tellV h d r (o ++ [32, 46, 32])).length ≤ 1300000 := by
                    have := tell_length hF.hh hF.hu d r (o ++ [32, 46, 32]) i1
                    simp at this
                    omega
                  simp at w3
                  by_cases hk : r.kind = 5
                  · by_cases hful : o.length < 100000
                    · obtain ⟨c2, a2, b2, p2⟩ := pair_of hF.hh i1 hk
                      obtain ⟨k, rfl⟩ : ∃ k', k = k' + 1 := ⟨k - 1, by omega⟩
                      rw [tail_step ⟨hk, hful⟩ p2] at i4
                      have g1 : (o.length : Int) < 100000 := by omega
                      have q2 := ihV a2 (o ++ [32]) (by have := p2.ra; omega) p2.va (by simp; omega)
                      have q3 := tell_len' hF (d := d) (by omega) p2.va (out := o ++ [32]) (by simp; omega)
                      simp at q2
                      have f0 := p2.lo
                      have f1 := p2.get
                      have f2 := p2.vals
                      have f3 : r.n.toNat < h.length := by have := p2.hi; omega
                      simp (maxSteps := 1000000) (disch := omega) [if_pos, if_neg, wrap_i64, wrap_u8, hk, q2, f0, f1, at_get f1, f2, f3]
                      refine run_env (ih (b2, tellV h d a2 (o ++ [32])) p2.rb ⟨p2.vb, by have := p2.rb; simp only; omega, q3, k, by have := p2.rb; simp only; omega, i4⟩) ?_
                      simp
                    · rw [tail_ge (fun hc => hful hc.2)] at i4
                      subst i4
                      have g1 : ¬ (o.length : Int) < 100000 := by omega
                      have e : endT (tellV h d) (r, o) = tellV h d r (o ++ [32, 46, 32]) ++ [41] := by simp [endT, hk]
                      rw [e]
                      simp (maxSteps := 1000000) (disch := omega) [if_pos, if_neg, wrap_i64, wrap_u8, w3, strRows]
                  · rw [tail_ge (fun hc => hk hc.1)] at i4
                    subst i4
                    by_cases k3 : r.kind = 3
                    · have e : endT (tellV h d) (r, o) = o ++ [41] := by simp [endT, k3]
                      rw [e]
                      simp (maxSteps := 1000000) (disch := omega) [if_pos, if_neg, wrap_i64, wrap_u8, strRows]
                    · have e : endT (tellV h d) (r, o) = tellV h d r (o ++ [32, 46, 32]) ++ [41] := by simp [endT, k3]
                      rw [e]
                      simp (maxSteps := 1000000) (disch := omega) [if_pos, if_neg, wrap_i64, wrap_u8, w3, strRows]
/-- The text of a value, up to a most. -/
noncomputable def textB (h : List KCell) (v : KValue) : ByteArray := if heapB h = true ∧ valB h v = true then ⟨((tellV h (rank v + 1) v []).take 100000).toArray⟩ else ⟨#[]⟩
theorem bytesOf_R : ∀ l : List UInt8, bytesOf (bytesR l) = some l
  | [] => rfl
  | b :: l => by
    have := bytesOf_R l
    simp only [List.map_cons, bytesOf, this, Option.map_some]
    simp
theorem fits_of {h : List KCell} (p1 : heapB h = true) (hu : KCell.us h ≤ 1048576) : Fits h := ⟨p1, by unfold heapB at p1; simp at p1; omega, hu⟩
theorem implTextR {h : List KCell} {v : KValue} (hF : Fits h) (p2 : valB h v = true) : A 31 [.leaf (KCell.sl false h), .agg (KValue.row false v)] = some ([.leaf (.str ⟨((tellV h (rank v + 1) v []).take 100000).toArray⟩)], [.gone, .gone]) := by
  have hr := rank_le hF.hh p2
  have hl := hF.hl
  have h3 := tellerValue hF (rank v + 1) (by omega) v [] (Nat.lt_succ_self _) p2 (by simp)
  have h4 := tell_length hF.hh hF.hu (rank v + 1) v [] p2
  simp only [List.length_nil, Nat.zero_max] at h4
  generalize tellV h (rank v + 1) v [] = t at *
  simp only [bytesR, List.map_nil] at h3
  refine run_impl_text ?_
  by_cases hm : (100000 : Int) < t.length
  · have e := bytesOf_R (t.take 100000)
    rw [bytesR, List.map_take] at e
    simp (maxSteps := 1000000) (disch := omega) [if_pos, if_neg, wrap_i64, wrap_u8, impl_text.b, h3, hm, e]
  · have e1 : t.take 100000 = t := List.take_of_length_le (by omega)
    have e2 : List.take t.length (bytesR t) = bytesR t := List.take_of_length_le (by simp)
    have e := bytesOf_R t
    rw [e1]
    simp (maxSteps := 1000000) (disch := omega) [if_pos, if_neg, wrap_i64, wrap_u8, impl_text.b, h3, hm, e, e2]
theorem implText (h : List KCell) (v : KValue) (hw : (h.length : Int) + KCell.us h ≤ 1048576) (hs : (v.s.size : Int) ≤ 1048576) : A 17 [.leaf (KCell.sl false h), .agg (KValue.row false v)] = some ([.leaf (.str (textB h v))], [.gone, .gone]) := by
  have h1 := implHeapOk h hw
  have h2 := implValueOk h v (by omega) (by omega)
  unfold textB
  refine run_impl_Text ?_
  cases p1 : heapB h <;> rw [p1] at h1
  · simp (maxSteps := 1000000) (disch := omega) [if_pos, if_neg, wrap_i64, wrap_u8, impl_Text.b, h1]
  · cases p2 : valB h v <;> rw [p2] at h2
    · simp (maxSteps := 1000000) (disch := omega) [if_pos, if_neg, wrap_i64, wrap_u8, impl_Text.b, h1, h2]
    · have key := implTextR (fits_of p1 (by omega)) p2
      simp (maxSteps := 1000000) (disch := omega) [if_pos, if_neg, wrap_i64, wrap_u8, impl_Text.b, h1, h2, key]
theorem specTextR {h : List KCell} {v : KValue} (hF : Fits h) (p2 : valB h v = true) : A 30 [.leaf (KCell.sl false h), .agg (KValue.row false v)] = some ([.leaf (.str ⟨((tellV h (rank v + 1) v []).take 100000).toArray⟩)], [.gone, .gone]) := by
  have hr := rank_le hF.hh p2
  have hl := hF.hl
  have h3 := l6Put hF (rank v + 1) (by omega) v [] (Nat.lt_succ_self _) p2 (by simp)
  have h4 := tell_length hF.hh hF.hu (rank v + 1) v [] p2
  simp only [List.length_nil, Nat.zero_max] at h4
  generalize tellV h (rank v + 1) v [] = t at *
  simp only [bytesR, List.map_nil] at h3
  refine run_spec_l6Text ?_
  by_cases hm : (100000 : Int) < t.length
  · have e := bytesOf_R (t.take 100000)
    rw [bytesR, List.map_take] at e
    simp (maxSteps := 1000000) (disch := omega) [if_pos, if_neg, wrap_i64, wrap_u8, spec_l6Text.b, h3, hm, e]
  · have e1 : t.take 100000 = t := List.take_of_length_le (by omega)
    have e := bytesOf_R t
    rw [e1]
    simp (maxSteps := 1000000) (disch := omega) [if_pos, if_neg, wrap_i64, wrap_u8, spec_l6Text.b, h3, hm, e]
theorem specText (h : List KCell) (v : KValue) (hw : (h.length : Int) + KCell.us h ≤ 1048576) (hs : (v.s.size : Int) ≤ 1048576) : A 16 [.leaf (KCell.sl false h), .agg (KValue.row false v)] = some ([.leaf (.str (textB h v))], [.gone, .gone]) := by
  have h1 := specHeapOk h hw
  have h2 := specValueOk h v (by omega) (by omega)
  unfold textB
  refine run_spec_Text ?_
  cases p1 : heapB h <;> rw [p1] at h1
  · simp (maxSteps := 1000000) (disch := omega) [if_pos, if_neg, wrap_i64, wrap_u8, spec_Text.b, h1]
  · cases p2 : valB h v <;> rw [p2] at h2
    · simp (maxSteps := 1000000) (disch := omega) [if_pos, if_neg, wrap_i64, wrap_u8, spec_Text.b, h1, h2]
    · have key := specTextR (fits_of p1 (by omega)) p2
      simp (maxSteps := 1000000) (disch := omega) [if_pos, if_neg, wrap_i64, wrap_u8, spec_Text.b, h1, h2, key]
end Go.Proofs.YtjjfodoafefohaaDoor.TX
