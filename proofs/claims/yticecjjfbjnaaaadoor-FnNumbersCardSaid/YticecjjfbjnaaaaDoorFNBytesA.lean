/- Numbers in bytes: groups of seven bits, digits of 256; texts as lists of numbers. No program in sight. -/
import Derived.Test.YticecjjfbjnaaaaDoorFNFam
import Derived.Laws.BitsLemmas
namespace Go.Proofs.YticecjjfbjnaaaaDoor.FN
open Go Go.VS Go.Lib
set_option maxRecDepth 10000
set_option linter.unusedSimpArgs false
set_option linter.unusedVariables false
/-- The bytes of the Var of a number (with so many groups at most). -/
def vb : Nat → Int → List Int
 | 0, x => [x]
 | d + 1, x => if x ≥ 128 then (128 + x % 128) :: vb d (x / 128) else [x]

/-- The number that groups tell. -/
def val : List Int → Int
 | [] => 0
 | b :: l => b % 128 + 128 * val l

def can1 : List Int → Prop
 | [] => False
 | [b] => 0 < b ∧ b < 128
 | b :: c :: l => 128 ≤ b ∧ can1 (c :: l)
def can0 : List Int → Prop
 | [] => False
 | [b] => b < 128
 | b :: c :: l => 128 ≤ b ∧ can1 (c :: l)

def isByte (b : Int) : Prop := 0 ≤ b ∧ b ≤ 255

theorem val_nonneg (l : List Int) : 0 ≤ val l := by
 induction l with
 | nil => exact Int.le_refl _
 | cons b l ih => simp only [val]; omega

theorem val_lt (l : List Int) : val l < 128 ^ l.length := by
 induction l with
 | nil => decide
 | cons b l ih => simp only [val, List.length_cons, Int.pow_succ]; omega

theorem can1_pos : ∀ l : List Int, can1 l → 0 < val l
 | [], h => h.elim
 | [b], h => by simp only [can1] at h; simp only [val]; omega
 | b :: c :: l, h => by
  have := can1_pos (c :: l) h.2
  simp only [val] at this ⊢
  omega

theorem can1_can0 : ∀ l : List Int, can1 l → can0 l
 | [], h => h
 | [_], h => h.2
 | _ :: _ :: _, h => h

theorem vb_length_pos (d : Nat) (x : Int) : vb d x ≠ [] := by
 cases d with
 | zero => simp [vb]
 | succ d => simp only [vb]; split <;> simp

theorem vb_val : ∀ (d : Nat) (l : List Int), (∀ b ∈ l, isByte b) → l.length ≤ d + 1 → (vb d (val l) = l ↔ can0 l)
 | d, [], _, _ => ⟨fun h => absurd h (vb_length_pos d _), fun h => h.elim⟩
 | d, [b], hb, _ => by
  have h1 := hb b (by simp)
  unfold isByte at h1
  have e : val [b] = b % 128 := by simp [val]
  have e2 : vb d (b % 128) = [b % 128] := by
   cases d with
   | zero => rfl
   | succ d => simp only [vb]; rw [if_neg (by omega)]
  rw [e, e2]
  simp only [can0, List.cons.injEq, and_true]
  omega
 | 0, _ :: _ :: _, _, h => by simp at h
 | d + 1, b :: c :: l, hb, h => by
  have h1 := hb b (by simp)
  unfold isByte at h1
  have ih := vb_val d (c :: l) (fun x hx => hb x (by simp at hx ⊢; exact .inr hx)) (by simp at h ⊢; omega)
  have hv := val_nonneg (c :: l)
  have e : val (b :: c :: l) = b % 128 + 128 * val (c :: l) := rfl
  have ed : (b % 128 + 128 * val (c :: l)) / 128 = val (c :: l) := by omega
  have em : (b % 128 + 128 * val (c :: l)) % 128 = b % 128 := by omega
  rw [e]
  simp only [vb, can0]
  constructor
  ·intro hh
   by_cases hge : b % 128 + 128 * val (c :: l) ≥ 128
   ·rw [if_pos hge, ed, em, List.cons.injEq] at hh
    refine ⟨by omega, ?_⟩
    have hc := ih.mp hh.2
    cases l with
    | nil =>
     simp only [can0] at hc
     simp only [can1]
     have h2 := hb c (by simp)
     unfold isByte at h2
     simp only [val] at hge hh
     omega
    | cons c' l' => exact hc
   ·rw [if_neg hge] at hh
    simp at hh
  ·intro ⟨hb1, hc⟩
   have hp := can1_pos _ hc
   rw [if_pos (by omega), ed, em, ih.mpr (can1_can0 _ hc), show 128 + b % 128 = b from by omega]

theorem can1_snoc : ∀ (l : List Int) (b : Int), can1 (l ++ [b]) ↔ (∀ x ∈ l, 128 ≤ x) ∧ 0 < b ∧ b < 128
 | [], b => by simp [can1]
 | [c], b => by simp [can1]
 | c :: e :: l, b => by
  have ih := can1_snoc (e :: l) b
  simp only [List.cons_append, can1] at ih ⊢
  rw [ih]
  simp only [List.mem_cons, forall_eq_or_imp]
  constructor
  ·intro h; exact ⟨⟨h.1, h.2.1⟩, h.2.2⟩
  ·intro h; exact ⟨h.1.1, h.1.2, h.2⟩

theorem can0_snoc : ∀ (l : List Int) (b : Int), can0 (l ++ [b]) ↔ (∀ x ∈ l, 128 ≤ x) ∧ b < 128 ∧ (l ≠ [] → 0 < b)
 | [], b => by simp [can0]
 | [c], b => by simp [can0, can1, and_comm]
 | c :: e :: l, b => by
  have ih := can1_snoc (e :: l) b
  simp only [List.cons_append, can0] at ih ⊢
  rw [ih]
  simp only [List.mem_cons, forall_eq_or_imp]
  constructor
  ·intro h; exact ⟨⟨h.1, h.2.1⟩, h.2.2.2, fun _ => h.2.2.1⟩
  ·intro h; exact ⟨h.1.1, h.1.2, h.2.2 (by simp), h.2.1⟩

theorem val_snoc (l : List Int) (b : Int) : val (l ++ [b]) = val l + 128 ^ l.length * (b % 128) := by
 induction l with
 | nil => simp [val]
 | cons c l ih =>
  simp only [List.cons_append, val, ih, List.length_cons, Int.pow_succ]
  have : 128 ^ l.length * 128 * (b % 128) = 128 * (128 ^ l.length * (b % 128)) := by rw [Int.mul_comm (128 ^ l.length) 128, Int.mul_assoc]
  omega

theorem vb_len (d : Nat) : ∀ x, (vb d x).length ≤ d + 1 := by
 induction d with
 | zero => intro x; simp [vb]
 | succ d ih =>
  intro x
  simp only [vb]
  split
  ·rw [List.length_cons]; have := ih (x / 128); omega
  ·simp
theorem vb_bytes (d : Nat) : ∀ x : Int, 0 ≤ x → x < 128 ^ (d + 1) → ∀ b ∈ vb d x, isByte b := by
 induction d with
 | zero =>
  intro x h0 h1 b hb
  rw [show (0 + 1 : Nat) = 1 from rfl, Int.pow_succ, Int.pow_zero] at h1
  simp only [vb, List.mem_singleton] at hb
  subst hb
  unfold isByte; omega
 | succ d ih =>
  intro x h0 h1 b hb
  simp only [vb] at hb
  by_cases hx : x ≥ 128
  ·rw [if_pos hx, List.mem_cons] at hb
   rcases hb with rfl | hb
   ·unfold isByte; omega
   ·exact ih (x / 128) (by omega) (by rw [Int.pow_succ] at h1; omega) b hb
  ·rw [if_neg hx, List.mem_singleton] at hb
   subst hb
   unfold isByte; omega
theorem val_vb (d : Nat) : ∀ x : Int, 0 ≤ x → x < 128 ^ (d + 1) → val (vb d x) = x := by
 induction d with
 | zero =>
  intro x h0 h1
  rw [show (0 + 1 : Nat) = 1 from rfl, Int.pow_succ, Int.pow_zero] at h1
  simp only [vb, val]
  omega
 | succ d ih =>
  intro x h0 h1
  simp only [vb]
  by_cases hx : x ≥ 128
  ·rw [if_pos hx, val, ih (x / 128) (by omega) (by rw [Int.pow_succ] at h1; omega)]
   omega
  ·rw [if_neg hx, val, val]
   omega
theorem can0_vb (x : Int) (h0 : 0 ≤ x) (h1 : x ≤ 562949953421311) : can0 (vb 6 x) := by
 have h2 : x < (128 : Int) ^ (6 + 1) := by show x < 562949953421312; omega
 have h := vb_val 6 (vb 6 x) (vb_bytes 6 x h0 h2) (vb_len 6 x)
 rw [val_vb 6 x h0 h2] at h
 exact h.mp rfl
def dg (n : Int) : Nat → List Int
 | 0 => []
 | w + 1 => (n / 256 ^ w) % 256 :: dg n w
theorem dg_length (n : Int) (w : Nat) : (dg n w).length = w := by
 induction w with
 | zero => rfl
 | succ w ih => simp [dg, ih]
theorem dg_byte (n : Int) : ∀ w, ∀ b ∈ dg n w, isByte b
 | 0, b, h => by cases h
 | w + 1, b, h => by
  simp only [dg, List.mem_cons] at h
  rcases h with rfl | h
  ·unfold isByte; omega
  ·exact dg_byte n w b h
theorem dg_get (n : Int) : ∀ (w i : Nat) (h : i < (dg n w).length), (dg n w)[i] = (n / 256 ^ (w - 1 - i)) % 256
 | 0, _, h => by cases h
 | w + 1, 0, _ => by simp [dg]
 | w + 1, i + 1, h => by
  have hi : i < (dg n w).length := by simpa [dg] using h
  have := dg_get n w i hi
  rw [show w + 1 - 1 - (i + 1) = w - 1 - i from by omega, ← this]
  rfl

/-- Numbers as the bytes of a text. -/
def u8s (l : List Int) : List UInt8 := l.map fun n => UInt8.ofNat n.toNat
def strI (l : List Int) : ByteArray := ⟨(u8s l).toArray⟩
/-- The bytes of a text as numbers. -/
def ib (s : ByteArray) : List Int := s.data.toList.map fun b => (b.toNat : Int)
def preI (s : ByteArray) (k : Nat) : List Int := (ib s).take k
theorem ib_length (s : ByteArray) : (ib s).length = s.size := by simp [ib]
theorem strI_size (l : List Int) : (strI l).size = l.length := by simp [strI, u8s]
theorem ib_byte (s : ByteArray) : ∀ b ∈ ib s, isByte b := by
 intro b hb
 obtain ⟨x, _, rfl⟩ := List.mem_map.1 hb
 have := x.toNat_lt
 unfold isByte
 omega
theorem u8s_ib (s : ByteArray) : u8s (ib s) = s.data.toList := by
 unfold u8s ib
 rw [List.map_map]
 have : ((fun n : Int => UInt8.ofNat n.toNat) ∘ fun b : UInt8 => (b.toNat : Int)) = id := by
  funext b
  simp
 rw [this, List.map_id]
theorem strI_ib (s : ByteArray) : strI (ib s) = s := by
 apply ByteArray.ext
 unfold strI
 rw [u8s_ib]
theorem ib_strI {l : List Int} (h : ∀ b ∈ l, isByte b) : ib (strI l) = l := by
 unfold ib strI u8s
 rw [List.map_map]
 have : ∀ b ∈ l, ((fun b : UInt8 => (b.toNat : Int)) ∘ fun n : Int => UInt8.ofNat n.toNat) b = b := by
  intro b hb
  have := h b hb
  unfold isByte at this
  simp only [Function.comp, UInt8.toNat_ofNat']
  omega
 exact (List.map_congr_left this).trans (List.map_id _)
theorem ib_append (a b : ByteArray) : ib (a ++ b) = ib a ++ ib b := by
 unfold ib
 rw [ByteArray.data_append, Array.toList_append, List.map_append]
theorem pre_length {s : ByteArray} {k : Nat} (h : k ≤ s.size) : (preI s k).length = k := by
 unfold preI
 rw [List.length_take, ib_length]
 omega
theorem ib_get {s : ByteArray} {k : Nat} {b : UInt8} (h : s.data[k]? = some b) : (ib s)[k]? = some (b.toNat : Int) := by
 unfold ib
 rw [List.getElem?_map, Array.getElem?_toList, h]
 rfl
theorem pre_snoc {s : ByteArray} {k : Nat} {b : Int} (h : (ib s)[k]? = some b) : preI s (k + 1) = preI s k ++ [b] := by
 unfold preI
 rw [List.take_add_one, h]
 rfl
theorem pre_byte (s : ByteArray) (k : Nat) : ∀ b ∈ preI s k, isByte b := fun b hb => ib_byte s b (List.mem_of_mem_take hb)
theorem pre_mem {s : ByteArray} {k j : Nat} {b : Int} (hj : j < k) (h : (ib s)[j]? = some b) : b ∈ preI s k := by
 unfold preI
 rw [List.mem_iff_getElem?]
 exact ⟨j, by rw [List.getElem?_take_of_lt hj, h]⟩
theorem extract_pre (s : ByteArray) (k : Nat) : s.extract 0 k = strI (preI s k) := by
 apply ByteArray.ext
 apply Array.toList_inj.mp
 simp only [ByteArray.data_extract, Array.toList_extract, List.extract_eq_take_drop, List.drop_zero, Nat.sub_zero, strI, preI]
 unfold u8s
 rw [List.map_take]
 have := u8s_ib s
 unfold u8s at this
 rw [this]
/-- What reading a Var tells: the groups at the text's begin, if there are such. -/
def IsRV (s : ByteArray) (r : Int × Int) : Prop :=
 (∃ kk : Nat, 1 ≤ kk ∧ kk ≤ 7 ∧ kk ≤ s.size ∧ can0 (preI s kk) ∧ r = (val (preI s kk), (kk : Int))) ∨ (r = (0, 0) ∧ ∀ kk : Nat, 1 ≤ kk → kk ≤ 7 → kk ≤ s.size → ¬ can0 (preI s kk))
theorem pre_last {s : ByteArray} {kk : Nat} (h : 1 ≤ kk) (hs : kk ≤ s.size) : ∃ b, (ib s)[kk - 1]? = some b ∧ preI s kk = preI s (kk - 1) ++ [b] := by
 have hl := ib_length s
 have hg : (ib s)[kk - 1]? = some (ib s)[kk - 1] := List.getElem?_eq_getElem (by omega)
 refine ⟨_, hg, ?_⟩
 have := pre_snoc hg
 rwa [show kk - 1 + 1 = kk by omega] at this
theorem no_can {s : ByteArray} {i kk : Nat} (h1 : 1 ≤ kk) (h : kk ≤ i) (hs : kk ≤ s.size) (hx : ∀ x ∈ preI s i, 128 ≤ x) : ¬ can0 (preI s kk) := by
 obtain ⟨b, hb, e⟩ := pre_last h1 hs
 rw [e, can0_snoc]
 intro hc
 have := hx b (pre_mem (by omega) hb)
 omega
theorem can0_same {s : ByteArray} {a b : Nat} (ha : 1 ≤ a) (hb : 1 ≤ b) (sa : a ≤ s.size) (sb : b ≤ s.size) (h1 : can0 (preI s a)) (h2 : can0 (preI s b)) : a = b := by
 obtain ⟨x, hx, ex⟩ := pre_last ha sa
 obtain ⟨y, hy, ey⟩ := pre_last hb sb
 rw [ex, can0_snoc] at h1
 rw [ey, can0_snoc] at h2
 rcases Nat.lt_trichotomy a b with h | h | h
 ·have := h2.1 _ (pre_mem (k := b - 1) (by omega) hx)
  omega
 ·exact h
 ·have := h1.1 _ (pre_mem (k := a - 1) (by omega) hy)
  omega
def varS (x : Int) : ByteArray := if 0 ≤ x ∧ x ≤ 562949953421311 then strI (vb 6 x) else ⟨#[]⟩
theorem varS_size (x : Int) : (varS x).size ≤ 7 := by
 unfold varS
 split
 ·rw [strI_size]; exact vb_len 6 x
 ·decide
/-- What Var wrote is read again. -/
theorem var_read (x : Int) (h0 : 0 ≤ x) (h1 : x ≤ 562949953421311) (tail : ByteArray) (r : Int × Int) (hr : IsRV (varS x ++ tail) r) : r = (x, ((varS x).size : Int)) := by
 have h2 : x < (128 : Int) ^ (6 + 1) := by show x < 562949953421312; omega
 have hb := vb_bytes 6 x h0 h2
 have hl := vb_len 6 x
 have hp : 0 < (vb 6 x).length := List.length_pos_iff.mpr (vb_length_pos 6 x)
 have ev : varS x = strI (vb 6 x) := if_pos ⟨h0, h1⟩
 have hs : (varS x).size = (vb 6 x).length := by rw [ev, strI_size]
 have hseg : preI (varS x ++ tail) (vb 6 x).length = vb 6 x := by
  unfold preI
  rw [ib_append, ev, ib_strI hb, List.take_left]
 have hc := can0_vb x h0 h1
 have hsz : (varS x ++ tail).size = (varS x).size + tail.size := ByteArray.size_append
 rcases hr with ⟨kk, k1, k7, ks, kc, rfl⟩ | ⟨rfl, hno⟩
 ·have e := can0_same (a := kk) (b := (vb 6 x).length) k1 (by omega) ks (by omega) kc (by rw [hseg]; exact hc)
  subst e
  rw [hseg, val_vb 6 x h0 h2, hs]
 ·exact absurd (by rw [hseg]; exact hc) (hno (vb 6 x).length (by omega) (by omega) (by omega))
/-- What is read as a Var was written so. -/
theorem read_var (s : ByteArray) (r : Int × Int) (hr : IsRV s r) (h : r.2 ≠ 0) : 0 ≤ r.2 ∧ r.2 ≤ (s.size : Int) ∧ varS r.1 = s.extract 0 r.2.toNat := by
 rcases hr with ⟨kk, k1, k7, ks, kc, rfl⟩ | ⟨rfl, _⟩
 ·have hv0 := val_nonneg (preI s kk)
  have hv1 := val_lt (preI s kk)
  rw [pre_length ks] at hv1
  have hv2 : val (preI s kk) ≤ 562949953421311 := by
   have : (128 : Int) ^ kk ≤ 562949953421312 := by
    obtain rfl | rfl | rfl | rfl | rfl | rfl | rfl : kk = 1 ∨ kk = 2 ∨ kk = 3 ∨ kk = 4 ∨ kk = 5 ∨ kk = 6 ∨ kk = 7 := by omega
    all_goals decide
   omega
  refine ⟨by show (0 : Int) ≤ (kk : Int); omega, by show (kk : Int) ≤ _; omega, ?_⟩
  show varS (val (preI s kk)) = s.extract 0 ((kk : Int)).toNat
  rw [show varS (val (preI s kk)) = strI (vb 6 (val (preI s kk))) from if_pos ⟨hv0, hv2⟩, (vb_val 6 (preI s kk) (pre_byte s kk) (by rw [pre_length ks]; omega)).mpr kc, Int.toNat_natCast, extract_pre]
 ·exact absurd rfl h
def fixS (n : Int) : ByteArray := if 0 ≤ n ∧ n < 72057594037927936 then strI (dg n 7) else ⟨#[]⟩
theorem fixS_size (n : Int) : (fixS n).size ≤ 7 := by
 unfold fixS
 split
 ·rw [strI_size, dg_length]; omega
 ·decide
/-- The number that digits of 256 tell. -/
def num256 (l : List Int) : Int := l.foldl (fun n b => n * 256 + b) 0
theorem num_dg (n : Int) (h0 : 0 ≤ n) : ∀ (w : Nat) (a : Int), a = n / 256 ^ w → (dg n w).foldl (fun n b => n * 256 + b) a = n
 | 0, a, h => by simpa [dg] using h
 | w + 1, a, h => by
  rw [dg, List.foldl_cons]
  refine num_dg n h0 w _ ?_
  have e : n / 256 ^ (w + 1) = n / 256 ^ w / 256 := by rw [Int.pow_succ, ← Int.ediv_ediv_of_nonneg (Int.pow_nonneg (by decide))]
  rw [h, e]
  omega
theorem fix_read {n : Int} (h0 : 0 ≤ n) (h1 : n < 72057594037927936) (tail : ByteArray) : num256 (preI (fixS n ++ tail) 7) = n := by
 have e : fixS n = strI (dg n 7) := if_pos ⟨h0, h1⟩
 have : preI (fixS n ++ tail) 7 = dg n 7 := by
  unfold preI
  rw [ib_append, e, ib_strI (dg_byte n 7)]
  have := List.take_left (l₁ := dg n 7) (l₂ := ib tail)
  rwa [dg_length] at this
 rw [this]
 exact num_dg n h0 7 0 (by show 0 = n / 72057594037927936; omega)
end Go.Proofs.YticecjjfbjnaaaaDoor.FN
