/- Plain lemmas on numbers in groups of seven bits: no program in sight. -/
import Derived.Test.YtggjjhbdpionpaaAux
namespace Go.Proofs.Ytggjjhbdpionpaa.Aux
open Go.RowKit Go.Proofs.YtggjjhbdpionpaaW.PrintWords Go.Proofs.YtggjjhbdpionpaaW.PrintLast Go.Proofs.YtggjjhbdpionpaaW.PrintMore

/-- The bytes of the Var of a number (with so many groups at most). -/
def vb : Nat → Int → List Int
  | 0, x => [x]
  | d + 1, x => if x ≥ 128 then (128 + x % 128) :: vb d (x / 128) else [x]

/-- The number that groups tell. -/
def val : List Int → Int
  | [] => 0
  | b :: l => b % 128 + 128 * val l

def can1 : List Int → Prop
  | [] => False
  | [b] => 0 < b ∧ b < 128
  | b :: c :: l => 128 ≤ b ∧ can1 (c :: l)
def can0 : List Int → Prop
  | [] => False
  | [b] => b < 128
  | b :: c :: l => 128 ≤ b ∧ can1 (c :: l)

def isByte (b : Int) : Prop := 0 ≤ b ∧ b ≤ 255

theorem val_nonneg (l : List Int) : 0 ≤ val l := by
  induction l with
  | nil => exact Int.le_refl _
  | cons b l ih => simp only [val]; omega

theorem val_lt (l : List Int) : val l < 128 ^ l.length := by
  induction l with
  | nil => decide
  | cons b l ih => simp only [val, List.length_cons, Int.pow_succ]; omega

theorem can1_pos : ∀ l : List Int, can1 l → 0 < val l
  | [], h => h.elim
  | [b], h => by simp only [can1] at h; simp only [val]; omega
  | b :: c :: l, h => by
    have := can1_pos (c :: l) h.2
    simp only [val] at this ⊢
    omega

theorem can1_can0 : ∀ l : List Int, can1 l → can0 l
  | [], h => h
  | [_], h => h.2
  | _ :: _ :: _, h => h

theorem vb_length_pos (d : Nat) (x : Int) : vb d x ≠ [] := by
  cases d with
  | zero => simp [vb]
  | succ d => simp only [vb]; split <;> simp

theorem vb_val : ∀ (d : Nat) (l : List Int), (∀ b ∈ l, isByte b) → l.length ≤ d + 1 → (vb d (val l) = l ↔ can0 l)
  | d, [], _, _ => ⟨fun h => absurd h (vb_length_pos d _), fun h => h.elim⟩
  | d, [b], hb, _ => by
    have h1 := hb b (by simp)
    unfold isByte at h1
    have e : val [b] = b % 128 := by simp [val]
    have e2 : vb d (b % 128) = [b % 128] := by
      cases d with
      | zero => rfl
      | succ d => simp only [vb]; rw [if_neg (by omega)]
    rw [e, e2]
    simp only [can0, List.cons.injEq, and_true]
    omega
  | 0, _ :: _ :: _, _, h => by simp at h
  | d + 1, b :: c :: l, hb, h => by
    have h1 := hb b (by simp)
    unfold isByte at h1
    have ih := vb_val d (c :: l) (fun x hx => hb x (by simp at hx ⊢; exact .inr hx)) (by simp at h ⊢; omega)
    have hv := val_nonneg (c :: l)
    have e : val (b :: c :: l) = b % 128 + 128 * val (c :: l) := rfl
    have ed : (b % 128 + 128 * val (c :: l)) / 128 = val (c :: l) := by omega
    have em : (b % 128 + 128 * val (c :: l)) % 128 = b % 128 := by omega
    rw [e]
    simp only [vb, can0]
    constructor
    · intro hh
      by_cases hge : b % 128 + 128 * val (c :: l) ≥ 128
      · rw [if_pos hge, ed, em, List.cons.injEq] at hh
        refine ⟨by omega, ?_⟩
        have hc := ih.mp hh.2
        cases l with
        | nil =>
          simp only [can0] at hc
          simp only [can1]
          have h2 := hb c (by simp)
          unfold isByte at h2
          simp only [val] at hge hh
          omega
        | cons c' l' => exact hc
      · rw [if_neg hge] at hh
        simp at hh
    · intro ⟨hb1, hc⟩
      have hp := can1_pos _ hc
      rw [if_pos (by omega), ed, em, ih.mpr (can1_can0 _ hc), show 128 + b % 128 = b from by omega]

theorem can1_snoc : ∀ (l : List Int) (b : Int), can1 (l ++ [b]) ↔ (∀ x ∈ l, 128 ≤ x) ∧ 0 < b ∧ b < 128
  | [], b => by simp [can1]
  | [c], b => by simp [can1]
  | c :: e :: l, b => by
    have ih := can1_snoc (e :: l) b
    simp only [List.cons_append, can1] at ih ⊢
    rw [ih]
    simp only [List.mem_cons, forall_eq_or_imp]
    constructor
    · intro h; exact ⟨⟨h.1, h.2.1⟩, h.2.2⟩
    · intro h; exact ⟨h.1.1, h.1.2, h.2⟩

theorem can0_snoc : ∀ (l : List Int) (b : Int), can0 (l ++ [b]) ↔ (∀ x ∈ l, 128 ≤ x) ∧ b < 128 ∧ (l ≠ [] → 0 < b)
  | [], b => by simp [can0]
  | [c], b => by simp [can0, can1, and_comm]
  | c :: e :: l, b => by
    have ih := can1_snoc (e :: l) b
    simp only [List.cons_append, can0] at ih ⊢
    rw [ih]
    simp only [List.mem_cons, forall_eq_or_imp]
    constructor
    · intro h; exact ⟨⟨h.1, h.2.1⟩, h.2.2.2, fun _ => h.2.2.1⟩
    · intro h; exact ⟨h.1.1, h.1.2, h.2.2 (by simp), h.2.1⟩

theorem val_snoc (l : List Int) (b : Int) : val (l ++ [b]) = val l + 128 ^ l.length * (b % 128) := by
  induction l with
  | nil => simp [val]
  | cons c l ih =>
    simp only [List.cons_append, val, ih, List.length_cons, Int.pow_succ]
    have : 128 ^ l.length * 128 * (b % 128) = 128 * (128 ^ l.length * (b % 128)) := by rw [Int.mul_comm (128 ^ l.length) 128, Int.mul_assoc]
    omega

/-- The bytes of a text from a place on, so many. -/
def seg (s : ByteArray) : Nat → Nat → List Int
  | _, 0 => []
  | i, m + 1 => bt s i :: seg s (i + 1) m

theorem seg_length (s : ByteArray) (m : Nat) : ∀ i, (seg s i m).length = m := by
  induction m with
  | zero => intro i; rfl
  | succ m ih => intro i; simp [seg, ih]

theorem seg_snoc (s : ByteArray) (m : Nat) : ∀ i, seg s i (m + 1) = seg s i m ++ [bt s (i + m : Nat)] := by
  induction m with
  | zero => intro i; simp [seg]
  | succ m ih =>
    intro i
    rw [seg, ih (i + 1), seg, List.cons_append, show i + 1 + m = i + (m + 1) from by omega]

theorem seg_byte (s : ByteArray) (m : Nat) : ∀ i, ∀ b ∈ seg s i m, isByte b := by
  induction m with
  | zero => intro i b hb; simp [seg] at hb
  | succ m ih =>
    intro i b hb
    simp only [seg, List.mem_cons] at hb
    rcases hb with rfl | hb
    · exact ⟨bt0 s i, bt1 s i⟩
    · exact ih _ b hb

theorem seg_mem (s : ByteArray) (m : Nat) : ∀ i j, i ≤ j → j < i + m → bt s (j : Nat) ∈ seg s i m := by
  induction m with
  | zero => intro i j h1 h2; omega
  | succ m ih =>
    intro i j h1 h2
    simp only [seg, List.mem_cons]
    by_cases h : j = i
    · exact .inl (by rw [h])
    · exact .inr (ih (i + 1) j (by omega) (by omega))

theorem strOfNums_inj : ∀ {a b : List Int}, (∀ x ∈ a, isByte x) → (∀ x ∈ b, isByte x) → strOfNums a = strOfNums b → a = b := by
  intro a b ha hb h
  have h' : a.map (fun n => UInt8.ofNat n.toNat) = b.map (fun n => UInt8.ofNat n.toNat) := by
    have := congrArg (fun s : ByteArray => s.data.toList) h
    simpa [strOfNums] using this
  clear h
  induction a generalizing b with
  | nil =>
    cases b with
    | nil => rfl
    | cons c b => simp at h'
  | cons x a ih =>
    cases b with
    | nil => simp at h'
    | cons c b =>
      simp only [List.map_cons, List.cons.injEq] at h'
      have hx := ha x (by simp)
      have hc := hb c (by simp)
      unfold isByte at hx hc
      have e : x = c := by
        have := congrArg UInt8.toNat h'.1
        simp only [UInt8.toNat_ofNat'] at this
        omega
      rw [e, ih (fun y hy => ha y (by simp [hy])) (fun y hy => hb y (by simp [hy])) h'.2]

theorem bt_get (s : ByteArray) (i : Nat) (h : i < s.size) : bt s (i : Nat) = ((s[i]'h).toNat : Int) := by
  unfold bt
  simp only [Int.toNat_natCast]
  rw [dif_pos h]

theorem extract_seg (s : ByteArray) (i m : Nat) (h : i + m ≤ s.size) : s.extract i (i + m) = strOfNums (seg s i m) := by
  induction m generalizing i with
  | zero =>
    apply ByteArray.ext
    simp [seg, strOfNums]
  | succ m ih =>
    have e := ih (i + 1) (by omega)
    apply ByteArray.ext
    have e' := congrArg (fun s : ByteArray => s.data.toList) e
    have hs : s.data.toList.length = s.size := Array.length_toList
    apply Array.toList_inj.mp
    simp only [ByteArray.data_extract, Array.toList_extract, List.extract_eq_take_drop, strOfNums_data, seg] at e' ⊢
    rw [List.drop_eq_getElem_cons (by omega), show i + (m + 1) - i = m + 1 from by omega, List.take_succ_cons, List.map_cons]
    rw [show i + 1 + m - (i + 1) = m from by omega] at e'
    rw [e']
    congr 1
    rw [bt_get s i (by omega)]
    simp
    rfl

end Go.Proofs.Ytggjjhbdpionpaa.Aux
