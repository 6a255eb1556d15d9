/- Reading and showing: what is read is a row of trees, and what they are shown as is read as them; what stands around changes nothing. -/
import Derived.Test.YtjcjodcpiickaaaGreatDoorEngReadP
import Derived.Test.YtjcjodcpiickaaaGreatDoorEngTreeP
namespace Go.VS
open Go Go.RowKit Go.Lib
set_option linter.unusedSimpArgs false
set_option linter.unusedVariables false
/-- A token ahead, and what stands behind it. -/
def Tk (l : List UInt8) (t : List UInt8) (l' : List UInt8) : Prop := t = (l.drop (skL false l)).take (tokL (l.drop (skL false l))) ∧ t ≠ [] ∧ l' = (l.drop (skL false l)).drop (tokL (l.drop (skL false l)))
/-- Only blanks and remarks. -/
def Bl (l : List UInt8) : Prop := skL false l = l.length
/-- A datum's tree is read, inside of so many (none); or the rest of a list behind some (true) or none. -/
inductive Rd : Option Bool → Nat → List UInt8 → DT → List UInt8 → Prop where
  | atom (d : Nat) (l t l' : List UInt8) (x : KDatum) (h : Tk l t l') (h1 : t ≠ [40]) (h2 : t ≠ [39]) (hx : atomD ⟨t.toArray⟩ = some x) : Rd none d l (.atom x) l'
  | quote (d : Nat) (l l1 l2 : List UInt8) (x : DT) (h : Tk l [39] l1) (hd : d < 24) (hx : Rd none (d + 1) l1 x l2) : Rd none d l (.pair (.atom quoteD) (.pair x (.atom nilD))) l2
  | list (d : Nat) (l l1 l2 : List UInt8) (x : DT) (h : Tk l [40] l1) (hd : d < 24) (hx : Rd (some false) (d + 1) l1 x l2) : Rd none d l x l2
  | nil (d : Nat) (b : Bool) (l l1 : List UInt8) (h : Tk l [41] l1) : Rd (some b) d l (.atom nilD) l1
  | dot (d : Nat) (l l1 l2 l3 : List UInt8) (x : DT) (h : Tk l [46] l1) (hx : Rd none d l1 x l2) (h3 : Tk l2 [41] l3) : Rd (some true) d l x l3
  | cons (d : Nat) (b : Bool) (l t l0 l1 l2 : List UInt8) (x y : DT) (h : Tk l t l0) (h1 : t ≠ [41]) (h2 : ¬ (t = [46] ∧ b = true)) (hx : Rd none d l x l1) (hy : Rd (some true) d l1 y l2) : Rd (some b) d l (.pair x y) l2
/-- The cells of a tree, the first of them with that number. -/
def post : Nat → DT → List KDatum
  | _, .atom c => [c]
  | n, .pair a b => post n a ++ (post (n + (post n a).length) b ++ [⟨5, 0, ⟨#[]⟩, (n + (post n a).length : Int) - 1, (n + (post n a).length + (post (n + (post n a).length) b).length : Int) - 1⟩])
theorem post_length : ∀ (n : Nat) (t : DT), (post n t).length = t.size
  | _, .atom c => rfl
  | n, .pair a b => by simp only [post, List.length_append, post_length n a, post_length _ b, DT.size, List.length_singleton]; omega
theorem size_pos : ∀ t : DT, 0 < t.size
  | .atom c => by simp [DT.size]
  | .pair a b => by simp [DT.size]
theorem post_pair (n : Nat) (a b : DT) : post n (.pair a b) = post n a ++ (post (n + a.size) b ++ [⟨5, 0, ⟨#[]⟩, (n + a.size : Int) - 1, (n + a.size + b.size : Int) - 1⟩]) := by
  simp only [post, post_length]
/-! What stands ahead and behind. -/
theorem skL_all : ∀ (l : List UInt8) (c : Bool) (p : List UInt8), (∀ c, skL c p = p.length) → skL c l = l.length → skL c (l ++ p) = (l ++ p).length
  | [], c, p, hp, h => by simpa using hp c
  | b :: l, true, p, hp, h => by
    simp only [skL, List.length_cons, List.cons_append] at h ⊢
    rw [skL_all l _ p hp (by omega)]
    omega
  | b :: l, false, p, hp, h => by
    simp only [skL, List.length_cons, List.cons_append] at h ⊢
    split at h
    · rename_i hb
      rw [if_pos hb, skL_all l _ p hp (by omega)]
      omega
    · rename_i hb
      split at h
      · rename_i h59
        rw [if_neg hb, if_pos h59, skL_all l _ p hp (by omega)]
        omega
      · omega
theorem skL_part : ∀ (l : List UInt8) (c : Bool) (p : List UInt8), skL c l < l.length → skL c (l ++ p) = skL c l
  | [], c, p, h => by simp at h
  | b :: l, true, p, h => by
    simp only [skL, List.length_cons, List.cons_append] at h ⊢
    rw [skL_part l _ p (by omega)]
  | b :: l, false, p, h => by
    simp only [skL, List.length_cons, List.cons_append] at h ⊢
    split
    · rename_i hb
      rw [if_pos hb] at h
      rw [skL_part l _ p (by omega)]
    · rename_i hb
      rw [if_neg hb] at h
      split
      · rename_i h59
        rw [if_pos h59] at h
        rw [skL_part l _ p (by omega)]
      · rfl
theorem rnL_part : ∀ (l p : List UInt8), (∀ b, p.head? = some b → runB b = false) → rnL (l ++ p) = rnL l
  | [], [], _ => rfl
  | [], b :: p, h => by
    have := h b rfl
    simp [rnL, this]
  | b :: l, p, h => by
    simp only [List.cons_append, rnL]
    split
    · rw [rnL_part l p h]
    · rfl
theorem tokL_part (l p : List UInt8) (hl : l ≠ []) (h : ∀ b, p.head? = some b → runB b = false) : tokL (l ++ p) = tokL l := by
  cases l with
  | nil => exact absurd rfl hl
  | cons b l =>
    simp only [List.cons_append, tokL]
    split
    · rfl
    · exact rnL_part (b :: l) p h
theorem Tk.lt {l t l' : List UInt8} (h : Tk l t l') : skL false l < l.length := by
  obtain ⟨h1, h2, h3⟩ := h
  refine Nat.lt_of_not_le fun hc => h2 ?_
  rw [List.drop_eq_nil_of_le hc] at h1
  rw [h1]; simp
theorem Tk.after {l t l' : List UInt8} (h : Tk l t l') (p : List UInt8) (hp : ∀ b, p.head? = some b → runB b = false) : Tk (l ++ p) t (l' ++ p) := by
  have hlt := h.lt
  obtain ⟨h1, h2, h3⟩ := h
  have e1 := skL_part l false p hlt
  have hne : l.drop (skL false l) ≠ [] := fun hc => by
    have := congrArg List.length hc
    simp at this
    omega
  have e2 : (l ++ p).drop (skL false (l ++ p)) = l.drop (skL false l) ++ p := by rw [e1, List.drop_append_of_le_length (by omega)]
  have hle := tokL_le (l.drop (skL false l))
  unfold Tk
  rw [e2, tokL_part _ p hne hp]
  exact ⟨by rw [List.take_append_of_le_length hle]; exact h1, h2, by rw [List.drop_append_of_le_length hle, h3]⟩
theorem Rd.after {m : Option Bool} {d : Nat} {l : List UInt8} {t : DT} {l' : List UInt8} (h : Rd m d l t l') (p : List UInt8) (hp : ∀ b, p.head? = some b → runB b = false) : Rd m d (l ++ p) t (l' ++ p) := by
  induction h with
  | atom d l t l' x h h1 h2 hx => exact .atom _ _ _ _ _ (h.after p hp) h1 h2 hx
  | quote d l l1 l2 x h hd hx ih => exact .quote _ _ _ _ _ (h.after p hp) hd ih
  | list d l l1 l2 x h hd hx ih => exact .list _ _ _ _ _ (h.after p hp) hd ih
  | nil d b l l1 h => exact .nil _ _ _ _ (h.after p hp)
  | dot d l l1 l2 l3 x h hx h3 ih => exact .dot _ _ _ _ _ _ (h.after p hp) ih (h3.after p hp)
  | cons d b l t l0 l1 l2 x y h h1 h2 hx hy ihx ihy => exact .cons _ _ _ _ _ _ _ _ _ (h.after p hp) h1 h2 ihx ihy
/-- What is skipped at once may stand there or not. -/
theorem Tk.skip {p l t l' : List UInt8} (hp : skL false (p ++ l) = p.length + skL false l) : Tk (p ++ l) t l' ↔ Tk l t l' := by
  have e : (p ++ l).drop (p.length + skL false l) = l.drop (skL false l) := by
    rw [List.drop_append, List.drop_eq_nil_of_le (by omega), List.nil_append, Nat.add_sub_cancel_left]
  unfold Tk
  rw [hp, e]
theorem Rd.skip {m : Option Bool} {d : Nat} {l0 : List UInt8} {t : DT} {l' : List UInt8} (h : Rd m d l0 t l') : ∀ (p l : List UInt8), l0 = l → skL false (p ++ l) = p.length + skL false l → Rd m d (p ++ l) t l' := by
  induction h with
  | atom d l t l' x h h1 h2 hx => rintro p _ rfl hp; exact .atom _ _ _ _ _ ((Tk.skip hp).2 h) h1 h2 hx
  | quote d l l1 l2 x h hd hx ih => rintro p _ rfl hp; exact .quote _ _ _ _ _ ((Tk.skip hp).2 h) hd hx
  | list d l l1 l2 x h hd hx ih => rintro p _ rfl hp; exact .list _ _ _ _ _ ((Tk.skip hp).2 h) hd hx
  | nil d b l l1 h => rintro p _ rfl hp; exact .nil _ _ _ _ ((Tk.skip hp).2 h)
  | dot d l l1 l2 l3 x h hx h3 ih => rintro p _ rfl hp; exact .dot _ _ _ _ _ _ ((Tk.skip hp).2 h) hx h3
  | cons d b l t l0 l1 l2 x y h h1 h2 hx hy ihx ihy => rintro p _ rfl hp; exact .cons _ _ _ _ _ _ _ _ _ ((Tk.skip hp).2 h) h1 h2 (ihx p _ rfl hp) hy
theorem Tk.short {l t l' : List UInt8} (h : Tk l t l') : l'.length < l.length := by
  have hlt := h.lt
  obtain ⟨h1, h2, h3⟩ := h
  have h4 : 0 < t.length := List.length_pos_iff.mpr h2
  rw [h1, List.length_take] at h4
  rw [h3, List.length_drop, List.length_drop]
  omega
theorem Rd.short {m : Option Bool} {d : Nat} {l : List UInt8} {t : DT} {l' : List UInt8} (h : Rd m d l t l') : l'.length < l.length := by
  induction h with
  | atom d l t l' x h h1 h2 hx => exact h.short
  | quote d l l1 l2 x h hd hx ih => have := h.short; omega
  | list d l l1 l2 x h hd hx ih => have := h.short; omega
  | nil d b l l1 h => exact h.short
  | dot d l l1 l2 l3 x h hx h3 ih => have := h.short; have := h3.short; omega
  | cons d b l t l0 l1 l2 x y h h1 h2 hx hy ihx ihy => omega
/-- A whole text is read. -/
inductive Rds : List UInt8 → List DT → Prop where
  | nil (l : List UInt8) (h : Bl l) : Rds l []
  | cons (l l1 : List UInt8) (t : DT) (ts : List DT) (h : Rd none 0 l t l1) (hs : Rds l1 ts) : Rds l (t :: ts)
def postA : Nat → List DT → List KDatum
  | _, [] => []
  | n, t :: ts => post n t ++ postA (n + t.size) ts
def topsA : Nat → List DT → List Int
  | _, [] => []
  | n, t :: ts => ((n + t.size : Int) - 1) :: topsA (n + t.size) ts
def sizeA : List DT → Nat
  | [] => 0
  | t :: ts => t.size + sizeA ts
theorem postA_length : ∀ (n : Nat) (ts : List DT), (postA n ts).length = sizeA ts
  | _, [] => rfl
  | n, t :: ts => by simp only [postA, List.length_append, post_length, postA_length, sizeA]
theorem Rds.around {l : List UInt8} {ts : List DT} (h : Rds l ts) (p : List UInt8) (hp : ∀ b, p.head? = some b → runB b = false) (hs : ∀ c, skL c p = p.length) : Rds (l ++ p) ts := by
  induction h with
  | nil l h => exact .nil _ (skL_all l false p hs h)
  | cons l l1 t ts h _ ih => exact .cons _ _ _ _ (h.after p hp) ih
theorem Rds.ahead {l : List UInt8} {ts : List DT} (h : Rds l ts) (p : List UInt8) (hp : skL false (p ++ l) = p.length + skL false l) : Rds (p ++ l) ts := by
  cases h with
  | nil _ h => exact .nil _ (by unfold Bl at *; rw [hp, h]; simp)
  | cons _ l1 t ts h hs => exact .cons _ _ _ _ (h.skip p l rfl hp) hs
/-! The reader and the trees. -/
theorem tokT_list (s : ByteArray) (p : Nat) : (tokT s p).data.toList = (s.data.toList.drop p).take (tokL (s.data.toList.drop p)) := by
  unfold tokT tokE
  rw [ByteArray.data_extract, Array.toList_extract, List.extract_eq_take_drop]
  congr 1
  omega
theorem tok_eq (s : ByteArray) (p : Nat) (l : List UInt8) : tokT s p = ⟨l.toArray⟩ ↔ (s.data.toList.drop p).take (tokL (s.data.toList.drop p)) = l := by
  rw [← tokT_list, ← data_inj]
theorem tk_at {s : ByteArray} {p : Nat} (hp : p ≤ s.size) (hne : tokE s (skp s p) ≠ skp s p) : Tk (s.data.toList.drop p) (tokT s (skp s p)).data.toList (s.data.toList.drop (tokE s (skp s p))) := by
  have e : (s.data.toList.drop p).drop (skL false (s.data.toList.drop p)) = s.data.toList.drop (skp s p) := by rw [List.drop_drop]; rfl
  refine ⟨by rw [e, tokT_list], fun h => hne ?_, ?_⟩
  · have h1 := congrArg List.length h
    have h2 := tokL_le (s.data.toList.drop (skp s p))
    rw [tokT_list, List.length_take, List.length_nil] at h1
    unfold tokE
    omega
  · rw [e, List.drop_drop]; rfl
theorem tk_of {s : ByteArray} {p : Nat} {t l' : List UInt8} (h : Tk (s.data.toList.drop p) t l') : tokT s (skp s p) = ⟨t.toArray⟩ ∧ tokE s (skp s p) ≠ skp s p ∧ l' = s.data.toList.drop (tokE s (skp s p)) := by
  have e : (s.data.toList.drop p).drop (skL false (s.data.toList.drop p)) = s.data.toList.drop (skp s p) := by rw [List.drop_drop]; rfl
  obtain ⟨h1, h2, h3⟩ := h
  rw [e] at h1 h3
  refine ⟨(tok_eq _ _ _).2 h1.symm, fun hc => h2 ?_, by rw [h3, List.drop_drop]; rfl⟩
  unfold tokE at hc
  rw [h1, show tokL (s.data.toList.drop (skp s p)) = 0 by omega]
  rfl
theorem putR_ok {r : RD} (hb : r.bad < 0) {x : KDatum} (hc : r.cells.length < 1000) : putR r x = ⟨r.at_, r.last, r.bad, r.cells ++ [x]⟩ := by
  unfold putR
  rw [if_neg (by omega), if_neg (by omega)]
theorem putR_good {r : RD} (hb : r.bad < 0) {x : KDatum} (h : (putR r x).bad < 0) : putR r x = ⟨r.at_, r.last, r.bad, r.cells ++ [x]⟩ ∧ r.cells.length < 1000 := by
  unfold putR at h ⊢
  rw [if_neg (by omega)] at h ⊢
  split at h
  · unfold failR at h
    rw [if_pos hb] at h
    simp only at h
    omega
  · rename_i hc
    rw [if_neg hc]
    exact ⟨rfl, by omega⟩
theorem putR_was {r : RD} {x : KDatum} (h : (putR r x).bad < 0) : r.bad < 0 := by
  refine Int.not_le.1 fun hc => ?_
  rw [putR_bad hc] at h
  omega
theorem lstR_was {r : RD} {ps : List Int} (h : (lstR r ps).bad < 0) : r.bad < 0 := by
  refine Int.not_le.1 fun hc => ?_
  rw [lstR_bad hc] at h
  omega
theorem failR_not {r : RD} {p : Nat} : ¬ (failR r p).bad < 0 := by
  unfold failR
  split
  · simp only; omega
  · omega
theorem lstR_snoc (r : RD) (ps : List Int) (x : Int) : lstR r (ps ++ [x]) = lstR (pairR r x) ps := by
  unfold lstR
  rw [List.foldr_append]
  rfl
theorem datR_was (s : ByteArray) : ∀ (k : Nat) (r : RD) (deep : Nat), (datR s k r deep).bad < 0 → r.bad < 0
  | 0, r, deep, h => by unfold datR at h; exact h
  | k + 1, r, deep, h => by
    refine Int.not_le.1 fun hc => ?_
    unfold datR at h
    simp only at h
    rw [if_pos (.inl hc)] at h
    exact failR_not h
theorem lpR_was (s : ByteArray) : ∀ (k : Nat) (r : RD) (ps : List Int) (deep : Nat), (lpR s k r ps deep).bad < 0 → r.bad < 0
  | 0, r, ps, deep, h => by unfold lpR at h; exact h
  | k + 1, r, ps, deep, h => by
    refine Int.not_le.1 fun hc => ?_
    unfold lpR at h
    rw [if_pos hc] at h
    omega
theorem datR_skip (s : ByteArray) (k : Nat) (r : RD) (deep : Nat) (hk : 0 < k) : datR s k (r.skip s) deep = datR s k r deep := by
  obtain ⟨k, rfl⟩ : ∃ k', k = k' + 1 := ⟨k - 1, by omega⟩
  have e := skp_idem s r.at_
  have e2 : (r.skip s).skip s = r.skip s := by simp only [RD.skip, e]
  simp only [datR, e]
  rw [e2]
theorem lone_tok (t : List UInt8) (b : UInt8) : (⟨t.toArray⟩ : ByteArray) = ⟨#[b]⟩ ↔ t = [b] := by
  rw [← data_inj]
mutual
/-- What is read is a tree. -/
theorem dat_sound (s : ByteArray) : ∀ (k : Nat) (r : RD) (deep : Nat), Fine s r → 2 * (s.size - r.at_) + 1 ≤ k → (datR s k r deep).bad < 0 →
    ∃ t, Rd none deep (s.data.toList.drop r.at_) t (s.data.toList.drop (datR s k r deep).at_) ∧ (datR s k r deep).cells = r.cells ++ post r.cells.length t
  | 0, r, deep, hf, hk, hb => by omega
  | k + 1, r, deep, hf, hk, hb => by
    have hr := datR_was s _ _ _ hb
    have hp := skp_le hf.a
    have hq := skp_ge s r.at_
    have he := tokE_le hp
    have hg := tokE_ge s (skp s r.at_)
    unfold datR at hb ⊢
    simp only at hb ⊢
    split at hb
    · exact absurd hb failR_not
    · rename_i hc
      rw [if_neg hc]
      have hne : tokE s (skp s r.at_) ≠ skp s r.at_ := fun e => hc (.inr e)
      have htk := tk_at hf.a hne
      have hgo := go_fine hf (e := tokE s (skp s r.at_)) (p := skp s r.at_) he hp
      split at hb
      · exact absurd hb failR_not
      · rename_i hdeep
        rw [if_neg hdeep]
        split at hb
        · rename_i hquo
          rw [if_pos hquo]
          rw [hquo] at htk
          have hd24 : deep < 24 := Nat.lt_of_not_le fun h => hdeep ⟨.inr hquo, h⟩
          have b2 := putR_was (lstR_was hb)
          have b1 := datR_was s _ _ _ b2
          obtain ⟨e1, c1⟩ := putR_good (by exact hr) b1
          have hpt := putR_at (r.go (tokE s (skp s r.at_)) (skp s r.at_)) quoteD
          simp only at hpt
          obtain ⟨t, ht, hcells⟩ := dat_sound s k (putR (r.go (tokE s (skp s r.at_)) (skp s r.at_)) quoteD) (deep + 1) (putR_fine hgo _) (by rw [hpt.1]; omega) b2
          generalize hr2 : datR s k (putR (r.go (tokE s (skp s r.at_)) (skp s r.at_)) quoteD) (deep + 1) = r2 at *
          rw [e1] at hcells ht hb ⊢
          simp only at hcells ht hb ⊢
          obtain ⟨e3, c3⟩ := putR_good b2 (lstR_was hb)
          rw [e3] at hb ⊢
          unfold lstR at hb ⊢
          simp only [List.foldr_cons, List.foldr_nil] at hb ⊢
          unfold pairR at hb ⊢
          have b4 := putR_was hb
          obtain ⟨e4, c4⟩ := putR_good (by exact b2) b4
          rw [e4] at hb ⊢
          obtain ⟨e5, c5⟩ := putR_good (by exact b2) hb
          rw [e5]
          refine ⟨_, .quote _ _ _ _ _ htk hd24 ht, ?_⟩
          simp only [lastR, hcells, post_pair, post, DT.size, List.length_append, List.length_singleton, List.length_cons, List.length_nil, List.append_assoc, List.cons_append, List.nil_append, post_length, List.append_cancel_left_eq, List.cons_append, List.nil_append, List.cons.injEq, KDatum.mk.injEq, and_true, true_and, Int.natCast_add, Int.natCast_one]
          omega
        · rename_i hquo
          rw [if_neg hquo]
          split at hb
          · rename_i hlp
            rw [if_pos hlp]
            rw [hlp] at htk
            have hd24 : deep < 24 := Nat.lt_of_not_le fun h => hdeep ⟨.inl hlp, h⟩
            obtain ⟨t, r2, h1, h2, h3, h5⟩ := lp_sound s k (r.go (tokE s (skp s r.at_)) (skp s r.at_)) [] deep hgo (by simp only; omega) hb
            have e : lpR s k (r.go (tokE s (skp s r.at_)) (skp s r.at_)) [] deep = r2 := h5
            rw [e]
            exact ⟨t, .list _ _ _ _ _ htk hd24 h1, h3⟩
          · rename_i hlp
            rw [if_neg hlp]
            unfold atomR at hb ⊢
            cases ha : atomD (tokT s (skp s r.at_)) with
            | none => rw [ha] at hb; exact absurd hb failR_not
            | some x =>
              rw [ha] at hb
              simp only at hb ⊢
              obtain ⟨e1, c1⟩ := putR_good (by exact hr) hb
              rw [e1]
              refine ⟨.atom x, .atom _ _ _ _ _ htk (fun h => hlp ?_) (fun h => hquo ?_) ?_, rfl⟩
              · exact data_inj.1 h
              · exact data_inj.1 h
              · rw [← ha]
/-- The rest of a list that is read. -/
theorem lp_sound (s : ByteArray) : ∀ (k : Nat) (r : RD) (ps : List Int) (deep : Nat), Fine s r → 2 * (s.size - r.at_) + 2 ≤ k → (lpR s k r ps deep).bad < 0 →
    ∃ t r2, Rd (some (decide (ps ≠ []))) (deep + 1) (s.data.toList.drop r.at_) t (s.data.toList.drop r2.at_) ∧ r2.bad < 0 ∧ r2.cells = r.cells ++ post r.cells.length t ∧ lpR s k r ps deep = lstR r2 ps
  | 0, r, ps, deep, hf, hk, hb => by omega
  | k + 1, r, ps, deep, hf, hk, hb => by
    have hr := lpR_was s _ _ _ _ hb
    have hp := skp_le hf.a
    have hq := skp_ge s r.at_
    have he := tokE_le hp
    have hg := tokE_ge s (skp s r.at_)
    have hgo := go_fine hf (e := tokE s (skp s r.at_)) (p := skp s r.at_) he hp
    have ne_of : ∀ {t : ByteArray}, tokT s (skp s r.at_) = t → t.data.toList ≠ [] → tokE s (skp s r.at_) ≠ skp s r.at_ := by
      intro t h1 h2 h3
      refine h2 ?_
      rw [← h1, tokT_list]
      unfold tokE at h3
      rw [show tokL (s.data.toList.drop (skp s r.at_)) = 0 by omega]
      rfl
    unfold lpR at hb ⊢
    rw [if_neg (by omega)] at hb ⊢
    simp only at hb ⊢
    split at hb
    · rename_i hrp
      rw [if_pos hrp]
      have htk := tk_at hf.a (ne_of hrp (by simp [rpT]))
      rw [hrp] at htk
      obtain ⟨e1, c1⟩ := putR_good (by exact hr) (lstR_was hb)
      rw [e1]
      exact ⟨.atom nilD, ⟨tokE s (skp s r.at_), skp s r.at_, r.bad, r.cells ++ [nilD]⟩, .nil _ _ _ _ htk, hr, rfl, rfl⟩
    · rename_i hrp
      rw [if_neg hrp]
      split at hb
      · rename_i hdot
        rw [if_pos hdot]
        have htk := tk_at hf.a (ne_of hdot.1 (by simp [dotT]))
        rw [hdot.1] at htk
        split at hb
        · rename_i hrp2
          rw [if_pos hrp2]
          have b1 := lstR_was hb
          have b1 : (datR s k (r.go (tokE s (skp s r.at_)) (skp s r.at_)) (deep + 1)).bad < 0 := b1
          have hd := datR_fine s k (r.go (tokE s (skp s r.at_)) (skp s r.at_)) (deep + 1) hgo (by simp only; omega)
          obtain ⟨t, ht, hcells⟩ := dat_sound s k (r.go (tokE s (skp s r.at_)) (skp s r.at_)) (deep + 1) hgo (by simp only; omega) b1
          generalize hr2 : datR s k (r.go (tokE s (skp s r.at_)) (skp s r.at_)) (deep + 1) = r2 at *
          have hne2 : tokE s (skp s r2.at_) ≠ skp s r2.at_ := by
            intro h3
            have h1 := congrArg (fun t : ByteArray => t.data.toList) hrp2
            simp only [tokT_list] at h1
            unfold tokE at h3
            rw [show tokL (s.data.toList.drop (skp s r2.at_)) = 0 by omega] at h1
            simp [rpT] at h1
          have htk2 := tk_at hd.1.a hne2
          rw [show tokT s (skp s r2.at_) = rpT from hrp2] at htk2
          rw [show decide (ps ≠ []) = true from decide_eq_true hdot.2]
          exact ⟨t, (r2.skip s).go (tokE s (skp s r2.at_)) (skp s r2.at_), .dot _ _ _ _ _ _ htk ht htk2, b1, hcells, rfl⟩
        · exact absurd hb failR_not
      · rename_i hdot
        rw [if_neg hdot]
        have b1 := lpR_was s _ _ _ _ hb
        rw [datR_skip s k r _ (by omega)] at hb b1 ⊢
        have hd := datR_fine s k r (deep + 1) hf (by omega)
        have hmv := hd.2 b1
        obtain ⟨t, hx, hcells⟩ := dat_sound s k r (deep + 1) hf (by omega) b1
        generalize hr2 : datR s k r (deep + 1) = r2 at *
        have hda := hd.1.a
        obtain ⟨t2, r3, g1, g2, g3, g5⟩ := lp_sound s k r2 (ps ++ [lastR r2]) deep hd.1 (by omega) hb
        rw [g5, lstR_snoc] at hb ⊢
        have b3 := lstR_was hb
        obtain ⟨e3, c3⟩ := putR_good g2 b3
        have hne : tokE s (skp s r.at_) ≠ skp s r.at_ := by
          intro h3
          have h4 : ∀ (m : Option Bool) (d : Nat) (l : List UInt8) (t : DT) (l' : List UInt8), Rd m d l t l' → ∃ t0 l0, Tk l t0 l0 := by
            intro m d l t l' h
            cases h with
            | atom _ _ _ _ _ h => exact ⟨_, _, h⟩
            | quote _ _ _ _ _ h => exact ⟨_, _, h⟩
            | list _ _ _ _ _ h => exact ⟨_, _, h⟩
            | nil _ _ _ _ h => exact ⟨_, _, h⟩
            | dot _ _ _ _ _ _ h => exact ⟨_, _, h⟩
            | cons _ _ _ _ _ _ _ _ _ h => exact ⟨_, _, h⟩
          obtain ⟨t0, l0, h5⟩ := h4 _ _ _ _ _ hx
          exact (tk_of h5).2.1 h3
        have htk := tk_at hf.a hne
        refine ⟨.pair t t2, pairR r3 (lastR r2), .cons _ _ _ _ _ _ _ _ _ htk (fun h => hrp (data_inj.1 h)) (fun h => hdot ⟨data_inj.1 h.1, of_decide_eq_true h.2⟩) hx ?_, b3, ?_, rfl⟩
        · rw [show decide (ps ++ [lastR r2] ≠ []) = true from decide_eq_true (by simp)] at g1
          unfold pairR
          rw [e3]
          exact g1
        · unfold pairR
          rw [e3]
          simp only [g3, hcells, post_pair, lastR, List.length_append, post_length, List.append_assoc, List.append_cancel_left_eq, List.cons.injEq, KDatum.mk.injEq, and_true, true_and, Int.natCast_add]
          omega
end
/-- A tree that is there is read. -/
theorem rd_complete (s : ByteArray) {m : Option Bool} {d : Nat} {l : List UInt8} {t : DT} {l' : List UInt8} (h : Rd m d l t l') : ∀ (k : Nat) (r : RD) (ps : List Int), l = s.data.toList.drop r.at_ → Fine s r → r.bad < 0 → r.cells.length + t.size ≤ 1000 →
    match m with
    | none => 2 * (s.size - r.at_) + 1 ≤ k → ∃ q, datR s k r d = q ∧ q.bad < 0 ∧ q.cells = r.cells ++ post r.cells.length t ∧ l' = s.data.toList.drop q.at_
    | some b => ∀ d', d = d' + 1 → b = decide (ps ≠ []) → 2 * (s.size - r.at_) + 2 ≤ k → ∃ q, lpR s k r ps d' = lstR q ps ∧ q.bad < 0 ∧ q.cells = r.cells ++ post r.cells.length t ∧ l' = s.data.toList.drop q.at_ := by
  induction h with
  | atom d l t l' x h h1 h2 hx =>
    intro k r ps hl hf hb hc hk
    subst hl
    obtain ⟨k, rfl⟩ : ∃ k', k = k' + 1 := ⟨k - 1, by omega⟩
    obtain ⟨e1, e2, e3⟩ := tk_of h
    have n1 : ¬ tokT s (skp s r.at_) = lpT := fun e => h1 ((lone_tok _ _).1 (e1.symm.trans e))
    have n2 : ¬ tokT s (skp s r.at_) = quoT := fun e => h2 ((lone_tok _ _).1 (e1.symm.trans e))
    refine ⟨_, rfl, ?_⟩
    unfold datR
    simp only
    rw [if_neg (by intro h; rcases h with h | h; omega; exact e2 h), if_neg (by intro h; rcases h.1 with h | h; exact n1 h; exact n2 h), if_neg n2, if_neg n1]
    unfold atomR
    rw [e1, hx]
    simp only
    simp only [DT.size] at hc
    rw [putR_ok (by exact hb) (by simp only; omega)]
    exact ⟨hb, rfl, e3⟩
  | quote d l l1 l2 x h hd hx ih =>
    intro k r ps hl hf hb hc hk
    subst hl
    obtain ⟨k, rfl⟩ : ∃ k', k = k' + 1 := ⟨k - 1, by omega⟩
    obtain ⟨e1, e2, e3⟩ := tk_of h
    have hp := skp_le hf.a
    have hq := skp_ge s r.at_
    have he := tokE_le hp
    have hg := tokE_ge s (skp s r.at_)
    have hgo := go_fine hf (e := tokE s (skp s r.at_)) (p := skp s r.at_) he hp
    simp only [DT.size] at hc
    have n1 : tokT s (skp s r.at_) = quoT := e1
    have ep := putR_ok (r := r.go (tokE s (skp s r.at_)) (skp s r.at_)) (by exact hb) (x := quoteD) (by simp only; omega)
    obtain ⟨q, q1, q2, q3, q4⟩ := ih k (putR (r.go (tokE s (skp s r.at_)) (skp s r.at_)) quoteD) [] (by rw [ep]; exact e3) (putR_fine hgo _) (by rw [ep]; exact hb) (by rw [ep]; simp; omega) (by rw [ep]; simp only; omega)
    refine ⟨_, rfl, ?_⟩
    unfold datR
    simp only
    rw [if_neg (by intro h; rcases h with h | h; omega; exact e2 h), if_neg (by intro h; omega), if_pos n1, q1]
    rw [ep] at q3 ⊢
    simp only [List.length_append, List.length_singleton] at q3
    have hq3 : q.cells.length = r.cells.length + 1 + x.size := by rw [q3]; simp [post_length]; omega
    unfold lstR
    simp only [List.foldr_cons, List.foldr_nil]
    rw [putR_ok q2 (by omega)]
    unfold pairR
    rw [putR_ok (r := ⟨q.at_, q.last, q.bad, q.cells ++ [nilD]⟩) (by exact q2) (by simp only [List.length_append, List.length_singleton]; omega)]
    rw [putR_ok (r := ⟨q.at_, q.last, q.bad, q.cells ++ [nilD] ++ [_]⟩) (by exact q2) (by simp only [List.length_append, List.length_singleton]; omega)]
    refine ⟨q2, ?_, q4⟩
    simp only [lastR, q3, post_pair, post, DT.size, List.length_append, List.length_singleton, List.length_cons, List.length_nil, List.append_assoc, List.cons_append, List.nil_append, post_length, List.append_cancel_left_eq, List.cons_append, List.nil_append, List.cons.injEq, KDatum.mk.injEq, and_true, true_and, Int.natCast_add, Int.natCast_one]
    omega
  | list d l l1 l2 x h hd hx ih =>
    intro k r ps hl hf hb hc hk
    subst hl
    obtain ⟨k, rfl⟩ : ∃ k', k = k' + 1 := ⟨k - 1, by omega⟩
    obtain ⟨e1, e2, e3⟩ := tk_of h
    have hp := skp_le hf.a
    have hq := skp_ge s r.at_
    have he := tokE_le hp
    have hg := tokE_ge s (skp s r.at_)
    have hgo := go_fine hf (e := tokE s (skp s r.at_)) (p := skp s r.at_) he hp
    have n1 : tokT s (skp s r.at_) = lpT := e1
    have n2 : ¬ tokT s (skp s r.at_) = quoT := fun e => by rw [n1] at e; cases e
    obtain ⟨q, q1, q2, q3, q4⟩ := ih k (r.go (tokE s (skp s r.at_)) (skp s r.at_)) [] e3 hgo hb hc d rfl (by simp) (by simp only; omega)
    refine ⟨_, rfl, ?_⟩
    unfold datR
    simp only
    rw [if_neg (by intro h; rcases h with h | h; omega; exact e2 h), if_neg (by intro h; omega), if_neg n2, if_pos n1, q1]
    exact ⟨q2, q3, q4⟩
  | nil d b l l1 h =>
    intro k r ps hl hf hb hc d' hd' hbp hk
    subst hl
    obtain ⟨k, rfl⟩ : ∃ k', k = k' + 1 := ⟨k - 1, by omega⟩
    obtain ⟨e1, e2, e3⟩ := tk_of h
    simp only [DT.size] at hc
    refine ⟨putR (r.go (tokE s (skp s r.at_)) (skp s r.at_)) nilD, ?_, ?_⟩
    · rw [lpR, if_neg (by omega)]
      simp only
      rw [if_pos (show tokT s (skp s r.at_) = rpT from e1)]
    · rw [putR_ok (by exact hb) (by simp only; omega)]
      exact ⟨hb, rfl, e3⟩
  | dot d l l1 l2 l3 x h hx h3 ih =>
    intro k r ps hl hf hb hc d' hd' hbp hk
    subst hl
    subst hd'
    obtain ⟨k, rfl⟩ : ∃ k', k = k' + 1 := ⟨k - 1, by omega⟩
    obtain ⟨e1, e2, e3⟩ := tk_of h
    have hp := skp_le hf.a
    have hq := skp_ge s r.at_
    have he := tokE_le hp
    have hg := tokE_ge s (skp s r.at_)
    have hgo := go_fine hf (e := tokE s (skp s r.at_)) (p := skp s r.at_) he hp
    have n1 : tokT s (skp s r.at_) = dotT := e1
    have n2 : ¬ tokT s (skp s r.at_) = rpT := fun e => by rw [n1] at e; cases e
    obtain ⟨q, q1, q2, q3, q4⟩ := ih k (r.go (tokE s (skp s r.at_)) (skp s r.at_)) [] e3 hgo hb hc (by simp only; omega)
    rw [q4] at h3
    obtain ⟨f1, f2, f3⟩ := tk_of h3
    refine ⟨(q.skip s).go (tokE s (skp s q.at_)) (skp s q.at_), ?_, q2, q3, f3⟩
    rw [lpR, if_neg (by omega)]
    simp only
    rw [if_neg n2, if_pos ⟨n1, of_decide_eq_true hbp.symm⟩, q1, if_pos (show tokT s (skp s q.at_) = rpT from f1)]
  | cons d b l t l0 l1 l2 x y h h1 h2 hx hy ihx ihy =>
    intro k r ps hl hf hb hc d' hd' hbp hk
    subst hl
    subst hd'
    obtain ⟨k, rfl⟩ : ∃ k', k = k' + 1 := ⟨k - 1, by omega⟩
    obtain ⟨e1, e2, e3⟩ := tk_of h
    have hp := skp_le hf.a
    have hq := skp_ge s r.at_
    simp only [DT.size] at hc
    have n1 : ¬ tokT s (skp s r.at_) = rpT := fun e => h1 ((lone_tok _ _).1 (e1.symm.trans e))
    have n2 : ¬ (tokT s (skp s r.at_) = dotT ∧ ps ≠ []) := fun e => h2 ⟨(lone_tok _ _).1 (e1.symm.trans e.1), by rw [hbp]; exact decide_eq_true e.2⟩
    obtain ⟨q, q1, q2, q3, q4⟩ := ihx k r [] rfl hf hb (by omega) (by omega)
    have hfin := datR_fine s k r (d' + 1) hf (by omega)
    rw [q1] at hfin
    have hmv := hfin.2 q2
    have hqa := hfin.1.a
    have hq3 : q.cells.length = r.cells.length + x.size := by rw [q3]; simp [post_length]
    obtain ⟨z, z1, z2, z3, z4⟩ := ihy k q (ps ++ [lastR q]) q4 hfin.1 q2 (by omega) d' rfl (decide_eq_true (by simp)).symm (by omega)
    have hz3 : z.cells.length = q.cells.length + y.size := by rw [z3]; simp [post_length]
    refine ⟨pairR z (lastR q), ?_, ?_⟩
    · rw [lpR, if_neg (by omega)]
      simp only
      rw [if_neg n1, if_neg n2, datR_skip s k r _ (by omega), q1, z1, lstR_snoc]
    · unfold pairR
      rw [putR_ok z2 (by omega)]
      refine ⟨z2, ?_, z4⟩
      simp only [lastR, z3, q3, post_pair, List.length_append, post_length, List.append_assoc, List.append_cancel_left_eq, List.cons_append, List.nil_append, List.cons.injEq, KDatum.mk.injEq, and_true, true_and, Int.natCast_add, Int.natCast_one]
      omega
end Go.VS
