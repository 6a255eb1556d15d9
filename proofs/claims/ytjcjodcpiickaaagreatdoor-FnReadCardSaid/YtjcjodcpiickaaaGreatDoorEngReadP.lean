/- Reading data, in plain words: what stands between tokens, where a token ends, what a reader makes of it. -/
import Derived.Test.YtjcjodcpiickaaaGreatDoorEngM7
namespace Go.VS
open Go Go.RowKit Go.Lib
set_option linter.unusedSimpArgs false
set_option linter.unusedVariables false
def blnk (b : UInt8) : Bool := decide (b.toNat = 9) || (decide (b.toNat = 10) || decide (b.toNat = 32))
/-- How much stands ahead of the next token (true: in a remark). -/
def skL : Bool → List UInt8 → Nat
  | _, [] => 0
  | true, b :: l => 1 + skL (!decide (b.toNat = 10)) l
  | false, b :: l => if blnk b = true then 1 + skL false l else if b.toNat = 59 then 1 + skL true l else 0
/-- May it stand in a token of several? -/
def runB (b : UInt8) : Bool := sign b || (decide (b.toNat = 35) || decide (b.toNat = 46))
def rnL : List UInt8 → Nat
  | [] => 0
  | b :: l => if runB b = true then 1 + rnL l else 0
def loneB (b : UInt8) : Bool := decide (b ∈ ([40, 41, 39] : List UInt8))
def tokL : List UInt8 → Nat
  | [] => 0
  | b :: l => if loneB b = true then 1 else rnL (b :: l)
def skp (s : ByteArray) (p : Nat) : Nat := p + skL false (s.data.toList.drop p)
def skc (s : ByteArray) (p : Nat) : Nat := p + skL true (s.data.toList.drop p)
def runE (s : ByteArray) (p : Nat) : Nat := p + rnL (s.data.toList.drop p)
def tokE (s : ByteArray) (p : Nat) : Nat := p + tokL (s.data.toList.drop p)
theorem drop_some {s : ByteArray} {p : Nat} {b : UInt8} (h : s.data[p]? = some b) : s.data.toList.drop p = b :: s.data.toList.drop (p + 1) := by
  rw [← Array.getElem?_toList] at h
  obtain ⟨hp, he⟩ := List.getElem?_eq_some_iff.1 h
  rw [List.drop_eq_getElem_cons hp, he]
theorem drop_none {s : ByteArray} {p : Nat} (h : s.size ≤ p) : s.data.toList.drop p = [] := List.drop_eq_nil_of_le (by simpa using h)
theorem byte_some {s : ByteArray} {p : Nat} (h : p < s.size) : ∃ b, s.data[p]? = some b := ⟨_, Array.getElem?_eq_getElem h⟩
theorem skL_le : ∀ (l : List UInt8) (c : Bool), skL c l ≤ l.length
  | [], c => by cases c <;> simp [skL]
  | b :: l, true => by have := skL_le l (!decide (b.toNat = 10)); simp only [skL, List.length_cons]; omega
  | b :: l, false => by
    have h1 := skL_le l false
    have h2 := skL_le l true
    simp only [skL, List.length_cons]
    split
    · omega
    · split
      · omega
      · omega
theorem rnL_le : ∀ l : List UInt8, rnL l ≤ l.length
  | [] => by simp [rnL]
  | b :: l => by
    have h1 := rnL_le l
    simp only [rnL, List.length_cons]
    split
    · omega
    · omega
theorem tokL_le : ∀ l : List UInt8, tokL l ≤ l.length
  | [] => by simp [tokL]
  | b :: l => by
    have h1 := rnL_le (b :: l)
    simp only [tokL, List.length_cons] at *
    split
    · omega
    · omega
theorem drop_len (s : ByteArray) (p : Nat) : (s.data.toList.drop p).length = s.size - p := by simp
theorem skp_ge (s : ByteArray) (p : Nat) : p ≤ skp s p := Nat.le_add_right _ _
theorem tokE_ge (s : ByteArray) (p : Nat) : p ≤ tokE s p := Nat.le_add_right _ _
theorem skp_le {s : ByteArray} {p : Nat} (h : p ≤ s.size) : skp s p ≤ s.size := by
  have := skL_le (s.data.toList.drop p) false
  rw [drop_len] at this
  unfold skp
  omega
theorem tokE_le {s : ByteArray} {p : Nat} (h : p ≤ s.size) : tokE s p ≤ s.size := by
  have := tokL_le (s.data.toList.drop p)
  rw [drop_len] at this
  unfold tokE
  omega
theorem skL_end : ∀ (l : List UInt8) (c : Bool), skL false (l.drop (skL c l)) = 0
  | [], c => by cases c <;> simp [skL]
  | b :: l, true => by
    have := skL_end l (!decide (b.toNat = 10))
    simp only [skL, Nat.add_comm 1, List.drop_succ_cons]
    exact this
  | b :: l, false => by
    have h1 := skL_end l false
    have h2 := skL_end l true
    simp only [skL]
    split
    · simp only [Nat.add_comm 1, List.drop_succ_cons]; exact h1
    · split
      · simp only [Nat.add_comm 1, List.drop_succ_cons]; exact h2
      · rename_i g1 g2
        simp [skL, g1, g2]
theorem skp_idem (s : ByteArray) (p : Nat) : skp s (skp s p) = skp s p := by
  have := skL_end (s.data.toList.drop p) false
  rw [List.drop_drop] at this
  show skp s p + skL false (s.data.toList.drop (skp s p)) = skp s p
  unfold skp
  rw [this]
  rfl
/-- A reader: where it is, where its last token began, where it failed (-1: it did not), what it has. -/
structure RD where
  at_ : Nat
  last : Nat
  bad : Int
  cells : List KDatum
def failR (r : RD) (p : Nat) : RD := if r.bad < 0 then { r with bad := p } else r
def putR (r : RD) (x : KDatum) : RD := if 0 ≤ r.bad then r else if 1000 ≤ r.cells.length then failR r r.last else { r with cells := r.cells ++ [x] }
def lastR (r : RD) : Int := (r.cells.length : Int) - 1
def pairR (r : RD) (p : Int) : RD := putR r ⟨5, 0, ⟨#[]⟩, p, lastR r⟩
def lstR (r : RD) (ps : List Int) : RD := ps.foldr (fun p r => pairR r p) r
def nilD : KDatum := ⟨4, 0, ⟨#[]⟩, 0, 0⟩
def quoteD : KDatum := ⟨3, 0, ⟨#[113, 117, 111, 116, 101]⟩, 0, 0⟩
/-- What a token is by itself. -/
noncomputable def atomD (t : ByteArray) : Option KDatum :=
  if (rd t).2 = true ∧ -1000000 ≤ (rd t).1 ∧ (rd t).1 ≤ 1000000 then some ⟨1, (rd t).1, ⟨#[]⟩, 0, 0⟩
  else if t = ⟨#[35, 116]⟩ then some ⟨2, 1, ⟨#[]⟩, 0, 0⟩ else if t = ⟨#[35, 102]⟩ then some ⟨2, 0, ⟨#[]⟩, 0, 0⟩
  else if sym t = true then some ⟨3, 0, t, 0, 0⟩ else none
noncomputable def atomR (r : RD) (t : ByteArray) (p : Nat) : RD := match atomD t with
  | some x => putR r x
  | none => failR r p
abbrev lpT : ByteArray := ⟨#[40]⟩
abbrev rpT : ByteArray := ⟨#[41]⟩
abbrev dotT : ByteArray := ⟨#[46]⟩
abbrev quoT : ByteArray := ⟨#[39]⟩
abbrev RD.go (r : RD) (e p : Nat) : RD := ⟨e, p, r.bad, r.cells⟩
abbrev RD.skip (r : RD) (s : ByteArray) : RD := ⟨skp s r.at_, r.last, r.bad, r.cells⟩
abbrev tokT (s : ByteArray) (p : Nat) : ByteArray := s.extract p (tokE s p)
mutual
/-- A datum, inside of so many. -/
noncomputable def datR (s : ByteArray) : Nat → RD → Nat → RD
  | 0, r, _ => r
  | k + 1, r, deep =>
    let p := skp s r.at_
    let e := tokE s p
    if 0 ≤ r.bad ∨ e = p then failR (r.skip s) p
    else if (tokT s p = lpT ∨ tokT s p = quoT) ∧ 24 ≤ deep then failR (r.skip s) p
    else if tokT s p = quoT then
      let r1 := putR (r.go e p) quoteD
      let r2 := datR s k r1 (deep + 1)
      lstR (putR r2 nilD) [lastR r1, lastR r2]
    else if tokT s p = lpT then lpR s k (r.go e p) [] deep
    else atomR (r.go e p) (tokT s p) p
/-- A list, behind its first token. -/
noncomputable def lpR (s : ByteArray) : Nat → RD → List Int → Nat → RD
  | 0, r, _, _ => r
  | k + 1, r, ps, deep =>
    if 0 ≤ r.bad then r else
    let p := skp s r.at_
    let e := tokE s p
    if tokT s p = rpT then lstR (putR (r.go e p) nilD) ps
    else if tokT s p = dotT ∧ ps ≠ [] then
      let r1 := (datR s k (r.go e p) (deep + 1)).skip s
      let q := r1.at_
      if tokT s q = rpT then lstR (r1.go (tokE s q) q) ps else failR r1 q
    else
      let r1 := datR s k (r.skip s) (deep + 1)
      lpR s k r1 (ps ++ [lastR r1]) deep
end
/-- All data of a text. -/
noncomputable def allR (s : ByteArray) : Nat → RD → List Int → RD × List Int
  | 0, r, ts => (r, ts)
  | k + 1, r, ts =>
    if 0 ≤ r.bad ∨ s.size ≤ r.at_ then (r, ts) else
    let r1 := datR s (2 * (s.size - r.at_) + 1) r 0
    if 0 ≤ r1.bad then (r1, ts) else allR s k (r1.skip s) (ts ++ [lastR r1])
noncomputable def readR (s : ByteArray) : KData × Int :=
  let q := allR s (s.size + 1) ⟨skp s 0, 0, -1, []⟩ []
  if 0 ≤ q.1.bad then (⟨[], []⟩, q.1.bad) else (⟨q.1.cells, q.2⟩, -1)
/-- What is so of a reader. -/
structure Fine (s : ByteArray) (r : RD) : Prop where
  a : r.at_ ≤ s.size
  l : r.last ≤ s.size
  b : -1 ≤ r.bad ∧ r.bad ≤ s.size
  c : r.cells.length ≤ 1000
theorem failR_fine {s : ByteArray} {r : RD} (h : Fine s r) {p : Nat} (hp : p ≤ s.size) : Fine s (failR r p) := by
  obtain ⟨a, l, b, c⟩ := h
  unfold failR
  split
  · exact ⟨a, l, ⟨by simp only; omega, by simp only; omega⟩, c⟩
  · exact ⟨a, l, b, c⟩
theorem putR_fine {s : ByteArray} {r : RD} (h : Fine s r) (x : KDatum) : Fine s (putR r x) := by
  unfold putR
  split
  · exact h
  · split
    · exact failR_fine h h.l
    · obtain ⟨a, l, b, c⟩ := h
      exact ⟨a, l, b, by simp only [List.length_append, List.length_singleton]; omega⟩
theorem lstR_fine {s : ByteArray} {r : RD} (h : Fine s r) : ∀ ps : List Int, Fine s (lstR r ps)
  | [] => h
  | p :: ps => putR_fine (lstR_fine h ps) _
theorem atomR_fine {s : ByteArray} {r : RD} (h : Fine s r) (t : ByteArray) {p : Nat} (hp : p ≤ s.size) : Fine s (atomR r t p) := by
  unfold atomR
  split
  · exact putR_fine h _
  · exact failR_fine h hp
theorem go_fine {s : ByteArray} {r : RD} (h : Fine s r) {e p : Nat} (he : e ≤ s.size) (hp : p ≤ s.size) : Fine s (r.go e p) := ⟨he, hp, h.b, h.c⟩
theorem skip_fine {s : ByteArray} {r : RD} (h : Fine s r) : Fine s (r.skip s) := ⟨skp_le h.a, h.l, h.b, h.c⟩
/-- Putting leaves the place as it is. -/
theorem failR_at (r : RD) (p : Nat) : (failR r p).at_ = r.at_ ∧ (failR r p).last = r.last := by unfold failR; split <;> exact ⟨rfl, rfl⟩
theorem putR_at (r : RD) (x : KDatum) : (putR r x).at_ = r.at_ ∧ (putR r x).last = r.last := by
  unfold putR
  split
  · exact ⟨rfl, rfl⟩
  · split
    · exact failR_at _ _
    · exact ⟨rfl, rfl⟩
theorem lstR_at (r : RD) : ∀ ps : List Int, (lstR r ps).at_ = r.at_ ∧ (lstR r ps).last = r.last
  | [] => ⟨rfl, rfl⟩
  | p :: ps => ⟨(putR_at _ _).1.trans (lstR_at r ps).1, (putR_at _ _).2.trans (lstR_at r ps).2⟩
theorem atomR_at (r : RD) (t : ByteArray) (p : Nat) : (atomR r t p).at_ = r.at_ := by
  unfold atomR
  split
  · exact (putR_at _ _).1
  · exact (failR_at _ _).1
/-- What has failed stays so. -/
theorem failR_bad {r : RD} (h : 0 ≤ r.bad) (p : Nat) : failR r p = r := if_neg (by omega)
theorem putR_bad {r : RD} (h : 0 ≤ r.bad) (x : KDatum) : putR r x = r := if_pos h
theorem lstR_bad {r : RD} (h : 0 ≤ r.bad) : ∀ ps : List Int, lstR r ps = r
  | [] => rfl
  | p :: ps => by
    show putR (lstR r ps) _ = r
    rw [lstR_bad h ps]
    exact putR_bad h _
mutual
/-- A datum that is read moves on; what came in bad, or moved not, is bad. -/
theorem datR_fine (s : ByteArray) : ∀ (k : Nat) (r : RD) (deep : Nat), Fine s r → 2 * (s.size - r.at_) + 1 ≤ k → Fine s (datR s k r deep) ∧ ((datR s k r deep).bad < 0 → r.at_ < (datR s k r deep).at_)
  | 0, r, deep, h, hk => by omega
  | k + 1, r, deep, h, hk => by
    have hp := skp_le h.a
    have hq := skp_ge s r.at_
    have he := tokE_le hp
    have hg := tokE_ge s (skp s r.at_)
    have hs := skip_fine h
    unfold datR
    simp only
    split
    · rename_i hc
      refine ⟨failR_fine hs hp, fun hb => ?_⟩
      exfalso
      unfold failR at hb
      split at hb
      · simp only at hb; omega
      · omega
    · rename_i hc
      have hne : tokE s (skp s r.at_) ≠ skp s r.at_ := fun e => hc (.inr e)
      have hgo := go_fine h (e := tokE s (skp s r.at_)) (p := skp s r.at_) he hp
      split
      · refine ⟨failR_fine hs hp, fun hb => ?_⟩
        exfalso
        unfold failR at hb
        split at hb
        · simp only at hb; omega
        · omega
      · split
        · have hpt := putR_at (r.go (tokE s (skp s r.at_)) (skp s r.at_)) quoteD
          simp only at hpt
          have hd := datR_fine s k (putR (r.go (tokE s (skp s r.at_)) (skp s r.at_)) quoteD) (deep + 1) (putR_fine hgo _) (by rw [hpt.1]; omega)
          refine ⟨lstR_fine (putR_fine hd.1 _) _, fun hb => ?_⟩
          have hb2 : (datR s k (putR (r.go (tokE s (skp s r.at_)) (skp s r.at_)) quoteD) (deep + 1)).bad < 0 := by
            refine Int.not_le.1 fun hb2 => ?_
            rw [putR_bad hb2, lstR_bad hb2] at hb
            omega
          rw [(lstR_at _ _).1, (putR_at _ _).1]
          have := hd.2 hb2
          rw [hpt.1] at this
          omega
        · split
          · have hl := lpR_fine s k (r.go (tokE s (skp s r.at_)) (skp s r.at_)) [] deep hgo (by simp only; omega)
            refine ⟨hl.1, fun hb => ?_⟩
            have := hl.2 hb
            simp only at this
            omega
          · refine ⟨atomR_fine hgo _ hp, fun hb => ?_⟩
            rw [atomR_at]
            show r.at_ < tokE s (skp s r.at_)
            omega
theorem lpR_fine (s : ByteArray) : ∀ (k : Nat) (r : RD) (ps : List Int) (deep : Nat), Fine s r → 2 * (s.size - r.at_) + 2 ≤ k → Fine s (lpR s k r ps deep) ∧ ((lpR s k r ps deep).bad < 0 → r.at_ ≤ (lpR s k r ps deep).at_)
  | 0, r, ps, deep, h, hk => by omega
  | k + 1, r, ps, deep, h, hk => by
    have hp := skp_le h.a
    have hq := skp_ge s r.at_
    have he := tokE_le hp
    have hg := tokE_ge s (skp s r.at_)
    have hs := skip_fine h
    unfold lpR
    simp only
    split
    · exact ⟨h, fun _ => Nat.le_refl _⟩
    · have hgo := go_fine h (e := tokE s (skp s r.at_)) (p := skp s r.at_) he hp
      split
      · refine ⟨lstR_fine (putR_fine hgo _) _, fun _ => ?_⟩
        rw [(lstR_at _ _).1, (putR_at _ _).1]
        show r.at_ ≤ tokE s (skp s r.at_)
        omega
      · split
        · rename_i hc
          have hne : tokE s (skp s r.at_) ≠ skp s r.at_ := fun e => by
            have h1 := hc.1
            unfold tokT at h1
            rw [e] at h1
            have h2 := congrArg ByteArray.size h1
            simp at h2
          have hd := datR_fine s k (r.go (tokE s (skp s r.at_)) (skp s r.at_)) (deep + 1) hgo (by simp only; omega)
          have h2 := skip_fine hd.1
          have hq2 := skp_le h2.a
          split
          · refine ⟨lstR_fine (go_fine h2 (tokE_le h2.a) h2.a) _, fun hb => ?_⟩
            rw [(lstR_at _ _).1]
            have hb2 : (datR s k (r.go (tokE s (skp s r.at_)) (skp s r.at_)) (deep + 1)).bad < 0 := by
              refine Int.not_le.1 fun hb2 => ?_
              rw [lstR_bad (by exact hb2)] at hb
              simp only at hb
              omega
            have h3 := hd.2 hb2
            have h4 := skp_ge s (datR s k (r.go (tokE s (skp s r.at_)) (skp s r.at_)) (deep + 1)).at_
            have h5 := tokE_ge s (skp s (datR s k (r.go (tokE s (skp s r.at_)) (skp s r.at_)) (deep + 1)).at_)
            simp only at h3
            show r.at_ ≤ tokE s (skp s (datR s k (r.go (tokE s (skp s r.at_)) (skp s r.at_)) (deep + 1)).at_)
            omega
          · refine ⟨failR_fine h2 h2.a, fun hb => ?_⟩
            exfalso
            unfold failR at hb
            split at hb
            · simp only at hb; omega
            · omega
        · have e0 : (r.skip s).at_ = skp s r.at_ := rfl
          have hd := datR_fine s k (r.skip s) (deep + 1) hs (by rw [e0]; omega)
          by_cases hb1 : (datR s k (r.skip s) (deep + 1)).bad < 0
          · have h3 := hd.2 hb1
            have h3a := hd.1.a
            have hl := lpR_fine s k (datR s k (r.skip s) (deep + 1)) (ps ++ [lastR (datR s k (r.skip s) (deep + 1))]) deep hd.1 (by omega)
            refine ⟨hl.1, fun hb => ?_⟩
            have h4 := hl.2 hb
            omega
          · have e : lpR s k (datR s k (r.skip s) (deep + 1)) (ps ++ [lastR (datR s k (r.skip s) (deep + 1))]) deep = datR s k (r.skip s) (deep + 1) := by
              cases k with
              | zero => omega
              | succ k => unfold lpR; rw [if_pos (by omega)]
            rw [e]
            exact ⟨hd.1, fun hb => absurd hb hb1⟩
end
end Go.VS
