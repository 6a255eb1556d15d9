/- Reading what is shown: whole texts. -/
import Derived.Test.YtjcjodcpiickaaaGreatDoorEngRoundP
namespace Go.VS
open Go Go.RowKit Go.Lib
set_option linter.unusedSimpArgs false
set_option linter.unusedVariables false
theorem Tk.unskip {l t l' : List UInt8} (h : Tk l t l') : Tk (l.drop (skL false l)) t l' := by
  have e := skL_end l false
  unfold Tk at *
  rw [e]
  simpa using h
theorem Rd.unskip {m : Option Bool} {d : Nat} {l : List UInt8} {t : DT} {l' : List UInt8} (h : Rd m d l t l') : Rd m d (l.drop (skL false l)) t l' := by
  induction h with
  | atom d l t l' x h h1 h2 hx => exact .atom _ _ _ _ _ h.unskip h1 h2 hx
  | quote d l l1 l2 x h hd hx ih => exact .quote _ _ _ _ _ h.unskip hd hx
  | list d l l1 l2 x h hd hx ih => exact .list _ _ _ _ _ h.unskip hd hx
  | nil d b l l1 h => exact .nil _ _ _ _ h.unskip
  | dot d l l1 l2 l3 x h hx h3 ih => exact .dot _ _ _ _ _ _ h.unskip hx h3
  | cons d b l t l0 l1 l2 x y h h1 h2 hx hy ihx ihy => exact .cons _ _ _ _ _ _ _ _ _ h.unskip h1 h2 ihx hy
theorem drop_skp (s : ByteArray) (p : Nat) : s.data.toList.drop (skp s p) = (s.data.toList.drop p).drop (skL false (s.data.toList.drop p)) := by rw [List.drop_drop]; rfl
theorem all_sound (s : ByteArray) : ∀ (k : Nat) (r : RD) (ts : List Int), Fine s r → s.size - r.at_ + 1 ≤ k → (allR s k r ts).1.bad < 0 →
    ∃ l, Rds (s.data.toList.drop r.at_) l ∧ (allR s k r ts).1.cells = r.cells ++ postA r.cells.length l ∧ (allR s k r ts).2 = ts ++ topsA r.cells.length l ∧ (allR s k r ts).1.cells.length ≤ 1000
  | 0, r, ts, hf, hk, hb => by omega
  | k + 1, r, ts, hf, hk, hb => by
    unfold allR at hb ⊢
    by_cases h1 : 0 ≤ r.bad ∨ s.size ≤ r.at_
    · rw [if_pos h1] at hb ⊢
      simp only at hb
      have h2 : s.size ≤ r.at_ := by omega
      refine ⟨[], .nil _ ?_, by simp [postA], by simp [topsA], hf.c⟩
      rw [drop_none h2]
      rfl
    · rw [if_neg h1] at hb ⊢
      simp only at hb ⊢
      by_cases h2 : 0 ≤ (datR s (2 * (s.size - r.at_) + 1) r 0).bad
      · rw [if_pos h2] at hb
        simp only at hb
        omega
      · rw [if_neg h2] at hb ⊢
        have hd := datR_fine s (2 * (s.size - r.at_) + 1) r 0 hf (Nat.le_refl _)
        have hmv := hd.2 (by omega)
        obtain ⟨t, ht, hc⟩ := dat_sound s (2 * (s.size - r.at_) + 1) r 0 hf (Nat.le_refl _) (by omega)
        generalize datR s (2 * (s.size - r.at_) + 1) r 0 = q at *
        have hsk := skp_ge s q.at_
        obtain ⟨l, g1, g2, g3, g4⟩ := all_sound s k (q.skip s) (ts ++ [lastR q]) (skip_fine hd.1) (by simp only; omega) hb
        simp only at g1 g2 g3
        have hl : q.cells.length = r.cells.length + t.size := by rw [hc]; simp [post_length]
        refine ⟨t :: l, .cons _ _ _ _ ht ?_, ?_, ?_, g4⟩
        · have e := skp_idem s q.at_
          rw [drop_skp] at g1
          have := g1.ahead ((s.data.toList.drop q.at_).take (skL false (s.data.toList.drop q.at_))) (by
            rw [List.take_append_drop, skL_end, List.length_take, Nat.min_eq_left (skL_le _ _)]
            rfl)
          rwa [List.take_append_drop] at this
        · rw [g2, hc]
          simp only [postA, List.append_assoc, List.length_append, post_length]
        · rw [g3]
          simp only [topsA, lastR, hl, List.append_assoc, List.cons_append, List.nil_append]
          congr 2
theorem all_complete (s : ByteArray) : ∀ (l : List UInt8) (trees : List DT), Rds l trees → ∀ (k : Nat) (r : RD) (ts : List Int) (p : Nat), l = s.data.toList.drop p → p ≤ s.size → r.at_ = skp s p → Fine s r → r.bad < 0 → r.cells.length + sizeA trees ≤ 1000 → s.size - r.at_ + 1 ≤ k →
    (allR s k r ts).1.bad < 0 ∧ (allR s k r ts).1.cells = r.cells ++ postA r.cells.length trees ∧ (allR s k r ts).2 = ts ++ topsA r.cells.length trees := by
  intro l trees h
  induction h with
  | nil l h =>
    intro k r ts p hl hp hr hf hb hc hk
    obtain ⟨k, rfl⟩ : ∃ k', k = k' + 1 := ⟨k - 1, by omega⟩
    subst hl
    unfold Bl at h
    rw [drop_len] at h
    unfold allR
    rw [if_pos (.inr (by rw [hr]; unfold skp; omega))]
    exact ⟨hb, by simp [postA], by simp [topsA]⟩
  | cons l l1 t ts' h hs ih =>
    intro k r ts p hl hp hr hf hb hc hk
    obtain ⟨k, rfl⟩ : ∃ k', k = k' + 1 := ⟨k - 1, by omega⟩
    subst hl
    have h' := h.unskip
    rw [← drop_skp, ← hr] at h'
    have hsh := h'.short
    rw [drop_len] at hsh
    simp only [sizeA] at hc
    obtain ⟨q, q1, q2, q3, q4⟩ := rd_complete s h' (2 * (s.size - r.at_) + 1) r [] rfl hf hb (by omega) (Nat.le_refl _)
    have hd := datR_fine s (2 * (s.size - r.at_) + 1) r 0 hf (Nat.le_refl _)
    rw [q1] at hd
    have hmv := hd.2 q2
    have hsk := skp_ge s q.at_
    have hq3 : q.cells.length = r.cells.length + t.size := by rw [q3]; simp [post_length]
    unfold allR
    rw [if_neg (by omega)]
    simp only
    rw [q1, if_neg (by omega)]
    obtain ⟨g1, g2, g3⟩ := ih k (q.skip s) (ts ++ [lastR q]) q.at_ q4 hd.1.a rfl (skip_fine hd.1) q2 (by simp only; omega) (by simp only; omega)
    refine ⟨g1, ?_, ?_⟩
    · rw [g2]
      simp only [q3, postA, List.append_assoc, List.length_append, post_length]
    · rw [g3]
      simp only [topsA, lastR, hq3, List.append_assoc, List.cons_append, List.nil_append]
      congr 2
theorem start_fine (s : ByteArray) : Fine s ⟨skp s 0, 0, -1, []⟩ := ⟨skp_le (Nat.zero_le _), Nat.zero_le _, ⟨Int.le_refl _, by simp only; omega⟩, by simp⟩
theorem read_sound {s : ByteArray} (h : (readR s).2 = -1) : ∃ ts, Rds s.data.toList ts ∧ sizeA ts ≤ 1000 ∧ (readR s).1 = ⟨postA 0 ts, topsA 0 ts⟩ := by
  unfold readR at h ⊢
  simp only at h ⊢
  by_cases hb : 0 ≤ (allR s (s.size + 1) ⟨skp s 0, 0, -1, []⟩ []).1.bad
  · rw [if_pos hb] at h
    simp only at h
    omega
  · rw [if_neg hb] at h ⊢
    obtain ⟨ts, g1, g2, g3, g4⟩ := all_sound s (s.size + 1) ⟨skp s 0, 0, -1, []⟩ [] (start_fine s) (by simp only; omega) (by omega)
    simp only [List.nil_append, List.length_nil] at g1 g2 g3
    rw [g2, postA_length] at g4
    refine ⟨ts, ?_, g4, ?_⟩
    · have e := drop_skp s 0
      rw [e] at g1
      have := g1.ahead ((s.data.toList.drop 0).take (skL false (s.data.toList.drop 0))) (by
        rw [List.take_append_drop, skL_end, List.length_take, Nat.min_eq_left (skL_le _ _)]
        rfl)
      rw [List.take_append_drop] at this
      simpa using this
    · rw [g2, g3]
theorem read_complete {s : ByteArray} {ts : List DT} (h : Rds s.data.toList ts) (hs : sizeA ts ≤ 1000) : readR s = (⟨postA 0 ts, topsA 0 ts⟩, -1) := by
  obtain ⟨g1, g2, g3⟩ := all_complete s s.data.toList ts h (s.size + 1) ⟨skp s 0, 0, -1, []⟩ [] 0 (by simp) (Nat.zero_le _) rfl (start_fine s) (by simp only; omega) (by simp only [List.length_nil]; omega) (by simp only; omega)
  unfold readR
  simp only
  rw [if_neg (by omega), g2, g3]
  simp
/-! Atoms. -/
theorem itoa_first (n : Int) : ∃ b t, itoa n = b :: t ∧ (b.toNat = 45 ∨ isDig b) := by
  by_cases h : n < 0
  · obtain ⟨t, ht⟩ := (itoa_head n).2 h
    exact ⟨45, t, ht, .inl rfl⟩
  · obtain ⟨b, t, h1, h2⟩ := head_dig n.toNat
    refine ⟨b, t, ?_, .inr h2⟩
    unfold itoa
    rw [if_neg h]
    exact h1
theorem itoa_signs (n : Int) : ∀ b ∈ itoa n, sign b = true := by
  intro b hb
  have hd : isDig b → sign b = true := fun h => by
    unfold isDig at h
    unfold sign
    simp [h]
  unfold itoa at hb
  split at hb
  · rcases List.mem_cons.1 hb with rfl | hb
    · decide
    · exact hd (decDigits_dig _ b hb)
  · exact hd (decDigits_dig _ b hb)
theorem rd_no {s : ByteArray} (h : ∀ b t, s.data.toList = b :: t → ¬ (b.toNat = 45 ∨ isDig b)) : (rd s).2 = false := by
  rcases rd_is s with ⟨m, m0, m1, me, hr⟩ | ⟨hno, hr⟩
  · obtain ⟨b, t, e1, e2⟩ := itoa_first m
    exact absurd e2 (h b t (me.symm.trans e1))
  · rw [hr]
theorem run_facts : ∀ n : _root_.Fin 256, runB (UInt8.ofNat n.val) = true → loneB (UInt8.ofNat n.val) = false ∧ blnk (UInt8.ofNat n.val) = false ∧ (UInt8.ofNat n.val).toNat ≠ 59 := by decide +kernel
theorem run_is {b : UInt8} (h : runB b = true) : loneB b = false ∧ blnk b = false ∧ b.toNat ≠ 59 := by
  have := run_facts ⟨b.toNat, b.toNat_lt⟩
  simp only [UInt8.ofNat_toNat] at this
  exact this h
theorem sign_run {b : UInt8} (h : sign b = true) : runB b = true := by simp [runB, h]
structure AtomOk (c : KDatum) : Prop where
  t : atomD ⟨(atomT c).toArray⟩ = some c
  ne : atomT c ≠ []
  run : ∀ b ∈ atomT c, runB b = true
  k4 : c.kind ≠ 4
  k5 : c.kind ≠ 5
theorem atom_ok {s : ByteArray} {c : KDatum} (h : atomD s = some c) : AtomOk c ∧ atomT c = s.data.toList := by
  have key : atomT c = s.data.toList ∧ atomT c ≠ [] ∧ (∀ b ∈ atomT c, runB b = true) ∧ c.kind ≠ 4 ∧ c.kind ≠ 5 := by
    unfold atomD at h
    split at h
    · rename_i h1
      obtain rfl := (Option.some.inj h).symm
      have e : itoa (rd s).1 = s.data.toList := by
        rcases rd_is s with ⟨m, m0, m1, me, hr⟩ | ⟨hno, hr⟩
        · rw [hr]; exact me
        · rw [hr] at h1; cases h1.1
      refine ⟨by simp [atomT, e], ?_, fun b hb => ?_, by simp, by simp⟩
      · obtain ⟨b, t, e1, _⟩ := itoa_first (rd s).1
        simp [atomT, e1]
      · simp only [atomT, if_pos] at hb
        exact sign_run (itoa_signs _ b hb)
    · split at h
      · rename_i h2
        obtain rfl := (Option.some.inj h).symm
        subst h2
        exact ⟨by simp [atomT], by simp [atomT], by simp [atomT]; decide, by simp, by simp⟩
      · split at h
        · rename_i h3
          obtain rfl := (Option.some.inj h).symm
          subst h3
          exact ⟨by simp [atomT], by simp [atomT], by simp [atomT]; decide, by simp, by simp⟩
        · split at h
          · rename_i h4
            obtain rfl := (Option.some.inj h).symm
            have h5 := h4
            unfold sym at h5
            simp only [Bool.and_eq_true, decide_eq_true_eq] at h5
            refine ⟨by simp [atomT], ?_, fun b hb => ?_, by simp, by simp⟩
            · intro hc
              have h6 : s.data.toList = [] := by simpa [atomT] using hc
              have h8 : s.size = s.data.toList.length := by simp
              rw [h6] at h8
              have h9 := h5.2.1.1
              rw [h8] at h9
              simp at h9
            · have hb : b ∈ s.data.toList := by simpa [atomT] using hb
              exact sign_run (List.all_eq_true.1 h5.1 b hb)
          · cases h
  obtain ⟨k1, k2, k3, k4, k5⟩ := key
  refine ⟨⟨?_, k2, k3, k4, k5⟩, k1⟩
  rw [k1]
  exact h
theorem quote_ok : AtomOk quoteD := by
  have h : atomD ⟨#[113, 117, 111, 116, 101]⟩ = some quoteD := by
    have h1 : (rd ⟨#[113, 117, 111, 116, 101]⟩).2 = false := rd_no fun b t h => by
      simp only [List.cons.injEq] at h
      obtain ⟨rfl, _⟩ := h
      decide
    have h2 : sym ⟨#[113, 117, 111, 116, 101]⟩ = true := by
      unfold sym
      rw [h1]
      decide
    unfold atomD
    rw [h1]
    simp [h2, quoteD]
  exact (atom_ok h).1
/-- A tree as reading makes it. -/
def DT.Good : DT → Prop
  | .atom c => c = nilD ∨ AtomOk c
  | .pair a b => a.Good ∧ b.Good
theorem Rd.good {m : Option Bool} {d : Nat} {l : List UInt8} {t : DT} {l' : List UInt8} (h : Rd m d l t l') : t.Good := by
  induction h with
  | atom d l t l' x h h1 h2 hx => exact .inr (atom_ok hx).1
  | quote d l l1 l2 x h hd hx ih => exact ⟨.inr quote_ok, ih, .inl rfl⟩
  | list d l l1 l2 x h hd hx ih => exact ih
  | nil d b l l1 h => exact .inl rfl
  | dot d l l1 l2 l3 x h hx h3 ih => exact ih
  | cons d b l t l0 l1 l2 x y h h1 h2 hx hy ihx ihy => exact ⟨ihx, ihy⟩
/-- How deep its text is. -/
def DT.nest : Bool → DT → Nat
  | false, .atom c => if c.kind = 4 then 1 else 0
  | true, .atom _ => 0
  | false, .pair a b => 1 + max (DT.nest false a) (DT.nest true b)
  | true, .pair a b => max (DT.nest false a) (DT.nest true b)
theorem nest_le : ∀ t : DT, t.nest false ≤ 1 + t.nest true ∧ t.nest true ≤ t.nest false
  | .atom c => by simp only [DT.nest]; split <;> omega
  | .pair a b => by simp only [DT.nest]; omega
theorem Rd.deep {m : Option Bool} {d : Nat} {l : List UInt8} {t : DT} {l' : List UInt8} (h : Rd m d l t l') : d ≤ 24 → d + t.nest m.isSome ≤ 24 := by
  induction h with
  | atom d l t l' x h h1 h2 hx =>
    intro hd
    have := (atom_ok hx).1.k4
    simp only [Option.isSome, DT.nest, if_neg this]
    omega
  | quote d l l1 l2 x h hd hx ih =>
    intro _
    have := ih (by omega)
    simp only [Option.isSome, DT.nest] at this ⊢
    rw [if_neg (by decide)]
    omega
  | list d l l1 l2 x h hd hx ih =>
    intro _
    have := ih (by omega)
    have := nest_le x
    simp only [Option.isSome] at *
    omega
  | nil d b l l1 h => intro hd; simp only [Option.isSome, DT.nest]; omega
  | dot d l l1 l2 l3 x h hx h3 ih =>
    intro hd
    have := ih hd
    have := nest_le x
    simp only [Option.isSome] at *
    omega
  | cons d b l t l0 l1 l2 x y h h1 h2 hx hy ihx ihy =>
    intro hd
    have := ihx hd
    have := ihy hd
    simp only [Option.isSome, DT.nest] at *
    omega
/-- A token begins what is read; it is neither an end nor a dot. -/
theorem Rd.first {m : Option Bool} {d : Nat} {l : List UInt8} {t : DT} {l' : List UInt8} (h : Rd m d l t l') : m = none → ∃ t0 l0, Tk l t0 l0 ∧ t0 ≠ [41] ∧ t0 ≠ [46] := by
  have no : ∀ (b : UInt8) x, ¬ (b.toNat = 45 ∨ isDig b) → sign b = false → b ≠ 35 → atomD ⟨[b].toArray⟩ ≠ some x := by
    intro b x h1 h2 h3 h
    have h4 : (rd ⟨[b].toArray⟩).2 = false := rd_no fun c t h => by
      simp only [List.cons.injEq] at h
      obtain ⟨rfl, _⟩ := h
      exact h1
    unfold atomD at h
    rw [h4] at h
    have h5 : sym ⟨[b].toArray⟩ = false := by unfold sym; simp [h2]
    rw [h5] at h
    have e1 : ¬ (⟨[b].toArray⟩ : ByteArray) = ⟨#[35, 116]⟩ := by rw [← data_inj]; simp
    have e2 : ¬ (⟨[b].toArray⟩ : ByteArray) = ⟨#[35, 102]⟩ := by rw [← data_inj]; simp
    rw [if_neg (by simp), if_neg e1, if_neg e2, if_neg (by simp)] at h
    cases h
  intro hm
  cases h with
  | atom _ _ _ _ x h h1 h2 hx =>
    refine ⟨_, _, h, fun e => ?_, fun e => ?_⟩
    · subst e
      exact no 41 x (by decide) (by decide) (by decide) hx
    · subst e
      exact no 46 x (by decide) (by decide) (by decide) hx
  | quote _ _ _ _ x h hd hx => exact ⟨_, _, h, by decide, by decide⟩
  | list _ _ _ _ _ h hd hx => exact ⟨_, _, h, by decide, by decide⟩
  | nil => cases hm
  | dot => cases hm
  | cons => cases hm
theorem rnL_all : ∀ l : List UInt8, (∀ b ∈ l, runB b = true) → rnL l = l.length
  | [], _ => rfl
  | b :: l, h => by
    simp only [rnL, List.length_cons, if_pos (h b (by simp)), rnL_all l fun x hx => h x (by simp [hx])]
    omega
theorem tk_run {x rest : List UInt8} (hne : x ≠ []) (hr : ∀ b ∈ x, runB b = true) (hb : ∀ b, rest.head? = some b → runB b = false) : Tk (x ++ rest) x rest := by
  obtain ⟨b, x', rfl⟩ := List.exists_cons_of_ne_nil hne
  have h1 := run_is (hr b (by simp))
  have h2 : skL false (b :: x' ++ rest) = 0 := by simp [skL, h1.2.1, h1.2.2]
  have h3 : tokL (b :: x' ++ rest) = (b :: x').length := by
    rw [tokL_part _ _ hne hb]
    simp only [tokL, h1.1]
    exact rnL_all _ hr
  unfold Tk
  rw [h2, List.drop_zero, h3]
  simp
theorem tk_lone {b : UInt8} (hb : b = 40 ∨ b = 41 ∨ b = 39) (rest : List UInt8) : Tk (b :: rest) [b] rest := by
  have h2 : skL false (b :: rest) = 0 := by rcases hb with rfl | rfl | rfl <;> rfl
  have h3 : tokL (b :: rest) = 1 := by rcases hb with rfl | rfl | rfl <;> rfl
  unfold Tk
  rw [h2, List.drop_zero, h3]
  simp
theorem sk_blank (rest : List UInt8) : skL false ([32] ++ rest) = [32].length + skL false rest := by
  simp [skL, blnk]
theorem no32 : runB 32 = false := by decide
theorem no41 : runB 41 = false := by decide
theorem tail_head (t : DT) (rest : List UInt8) : ∀ b, (t.txt true ++ rest).head? = some b → runB b = false := by
  intro b hb
  cases t with
  | atom c =>
    simp only [DT.txt] at hb
    split at hb
    · simp at hb; subst hb; exact no41
    · simp at hb; subst hb; exact no32
  | pair x y => simp [DT.txt] at hb; subst hb; exact no32
/-- What a tree is shown as is read as it. -/
theorem rd_txt : ∀ (t : DT), t.Good → (∀ (d : Nat) (rest : List UInt8), d + t.nest false ≤ 24 → (∀ b, rest.head? = some b → runB b = false) → Rd none d (t.txt false ++ rest) t rest) ∧
    ∀ (d : Nat) (rest : List UInt8), d + t.nest true ≤ 24 → Rd (some true) d (t.txt true ++ rest) t rest
  | .atom c, hg => by
    by_cases hn : c = nilD
    · subst hn
      refine ⟨fun d rest hd hb => ?_, fun d rest hd => ?_⟩
      · have : d < 24 := by simp [DT.nest, nilD] at hd; omega
        exact .list d _ (41 :: rest) rest _ (tk_lone (.inl rfl) _) this (.nil _ _ _ _ (tk_lone (.inr (.inl rfl)) _))
      · exact .nil _ _ _ _ (tk_lone (.inr (.inl rfl)) _)
    · have ha : AtomOk c := hg.resolve_left hn
      have n40 : atomT c ≠ [40] := fun e => by
        have := ha.run 40 (by rw [e]; simp)
        revert this; decide
      have n39 : atomT c ≠ [39] := fun e => by
        have := ha.run 39 (by rw [e]; simp)
        revert this; decide
      have h1 : ∀ (d : Nat) (rest : List UInt8), (∀ b, rest.head? = some b → runB b = false) → Rd none d (atomT c ++ rest) (.atom c) rest := fun d rest hb => .atom _ _ _ _ _ (tk_run ha.ne ha.run hb) n40 n39 ha.t
      refine ⟨fun d rest hd hb => h1 d rest hb, fun d rest hd => ?_⟩
      have e : DT.txt true (.atom c) ++ rest = [32] ++ (46 :: ([32] ++ (atomT c ++ (41 :: rest)))) := by
        simp [DT.txt, ha.k4]
      rw [e]
      refine .dot d _ ([32] ++ (atomT c ++ (41 :: rest))) (41 :: rest) rest _ ((Tk.skip (sk_blank _)).2 ?_) ((h1 d (41 :: rest) ?_).skip _ _ rfl (sk_blank _)) (tk_lone (.inr (.inl rfl)) _)
      · exact tk_run (x := [46]) (by simp) (by simp; decide) (by simp; decide)
      · intro b hb
        simp at hb
        subst hb
        exact no41
  | .pair a b, hg => by
    obtain ⟨ha1, ha2⟩ := rd_txt a hg.1
    obtain ⟨hb1, hb2⟩ := rd_txt b hg.2
    have item : ∀ (d : Nat) (q : Bool) (rest : List UInt8), d + max (a.nest false) (b.nest true) ≤ 24 → Rd (some q) d (a.txt false ++ (b.txt true ++ rest)) (.pair a b) rest := by
      intro d q rest hd
      have h1 := ha1 d (b.txt true ++ rest) (by omega) (tail_head b rest)
      obtain ⟨t0, l0, k1, k2, k3⟩ := h1.first rfl
      exact .cons _ _ _ _ _ _ _ _ _ k1 k2 (fun h => k3 h.1) h1 (hb2 d rest (by omega))
    refine ⟨fun d rest hd hb => ?_, fun d rest hd => ?_⟩
    · have e : DT.txt false (.pair a b) ++ rest = 40 :: (a.txt false ++ (b.txt true ++ rest)) := by simp [DT.txt]
      rw [e]
      simp only [DT.nest] at hd
      exact .list _ _ _ _ _ (tk_lone (.inl rfl) _) (by omega) (item _ _ _ (by omega))
    · have e : DT.txt true (.pair a b) ++ rest = [32] ++ (a.txt false ++ (b.txt true ++ rest)) := by simp [DT.txt]
      rw [e]
      simp only [DT.nest] at hd
      exact (item d true rest hd).skip _ _ rfl (sk_blank _)
/-- Trees as reading makes them. -/
def GoodA (ts : List DT) : Prop := ∀ t ∈ ts, t.Good ∧ t.nest false ≤ 24
theorem Rds.good {l : List UInt8} {ts : List DT} (h : Rds l ts) : GoodA ts := by
  induction h with
  | nil => intro t ht; cases ht
  | cons l l1 t ts h _ ih =>
    intro x hx
    rcases List.mem_cons.1 hx with rfl | hx
    · have := h.deep (Nat.zero_le _)
      simp only [Option.isSome] at this
      exact ⟨h.good, by omega⟩
    · exact ih x hx
def txts (ts : List DT) : List UInt8 := ts.flatMap fun t => t.txt false ++ [10]
theorem rds_txts : ∀ ts : List DT, GoodA ts → Rds (txts ts) ts
  | [], _ => .nil _ rfl
  | t :: ts, h => by
    have ih := rds_txts ts fun x hx => h x (by simp [hx])
    have ht := h t (by simp)
    have e : txts (t :: ts) = t.txt false ++ ([10] ++ txts ts) := by simp [txts]
    rw [e]
    refine .cons _ _ _ _ ((rd_txt t ht.1).1 0 _ (by omega) fun b hb => ?_) (ih.ahead [10] ?_)
    · simp at hb; subst hb; decide
    · simp [skL, blnk]
/-! The cells of trees. -/
theorem post_low : ∀ (t : DT) (n i : Nat) (c : KDatum), t.Good → (post n t)[i]? = some c → lowB (n + i) c = true
  | .atom x, n, i, c, hg, h => by
    cases i with
    | zero =>
      simp [post] at h
      subst h
      have : x.kind ≠ 5 := by
        rcases hg with rfl | hg
        · decide
        · exact hg.k5
      simp [lowB, this]
    | succ i => simp [post] at h
  | .pair a b, n, i, c, hg, h => by
    rw [post_pair] at h
    have la := post_length n a
    have lb := post_length (n + a.size) b
    have pa := size_pos a
    have pb := size_pos b
    by_cases h1 : i < a.size
    · rw [List.getElem?_append_left (by omega)] at h
      exact post_low a n i c hg.1 h
    · rw [List.getElem?_append_right (by omega), la] at h
      by_cases h2 : i - a.size < b.size
      · rw [List.getElem?_append_left (by omega)] at h
        have := post_low b (n + a.size) (i - a.size) c hg.2 h
        rwa [show n + a.size + (i - a.size) = n + i by omega] at this
      · rw [List.getElem?_append_right (by omega), lb] at h
        have h3 : i - a.size - b.size = 0 := by
          have := (List.getElem?_eq_some_iff.1 h).1
          simp at this
          omega
        rw [h3] at h
        simp at h
        subst h
        unfold lowB
        rw [decide_eq_true_iff]
        intro _
        simp only
        omega
theorem postA_low : ∀ (ts : List DT) (n i : Nat) (c : KDatum), GoodA ts → (postA n ts)[i]? = some c → lowB (n + i) c = true
  | [], n, i, c, hg, h => by simp [postA] at h
  | t :: ts, n, i, c, hg, h => by
    have la := post_length n t
    simp only [postA] at h
    by_cases h1 : i < t.size
    · rw [List.getElem?_append_left (by omega)] at h
      exact post_low t n i c (hg t (by simp)).1 h
    · rw [List.getElem?_append_right (by omega), la] at h
      have := postA_low ts (n + t.size) (i - t.size) c (fun x hx => hg x (by simp [hx])) h
      rwa [show n + t.size + (i - t.size) = n + i by omega] at this
theorem post_count : ∀ (t : DT) (n : Nat) (j : Int), t.Good → ((post n t).flatMap partsD).count j = if (n : Int) ≤ j ∧ j + 1 < n + t.size then 1 else 0
  | .atom x, n, j, hg => by
    have : x.kind ≠ 5 := by
      rcases hg with rfl | hg
      · decide
      · exact hg.k5
    rw [if_neg (by simp only [DT.size]; omega)]
    simp [post, partsD, this]
  | .pair a b, n, j, hg => by
    have pa := size_pos a
    have pb := size_pos b
    have es : (DT.pair a b).size = a.size + b.size + 1 := rfl
    rw [es, post_pair, List.flatMap_append, List.flatMap_append, List.count_append, List.count_append, post_count a n j hg.1, post_count b _ j hg.2]
    simp only [List.flatMap_cons, List.flatMap_nil, List.append_nil, partsD, if_pos, List.count_cons, List.count_nil, beq_iff_eq]
    by_cases e1 : (n : Int) + a.size - 1 = j
    · rw [if_pos e1, if_neg (by omega), if_neg (by omega), if_neg (by omega), if_pos (by omega)]
    · by_cases e2 : (n : Int) + a.size + b.size - 1 = j
      · rw [if_neg e1, if_pos e2, if_neg (by omega), if_neg (by omega), if_pos (by omega)]
      · rw [if_neg e1, if_neg e2]
        by_cases e3 : (n : Int) ≤ j ∧ j + 1 < n + a.size
        · rw [if_pos e3, if_neg (by omega), if_pos (by omega)]
        · by_cases e4 : ((n + a.size : Nat) : Int) ≤ j ∧ j + 1 < (n + a.size : Nat) + b.size
          · rw [if_neg e3, if_pos e4, if_pos (by omega)]
          · rw [if_neg e3, if_neg e4, if_neg (by omega)]
theorem postA_count : ∀ (ts : List DT) (n : Nat) (j : Int), GoodA ts → (topsA n ts ++ (postA n ts).flatMap partsD).count j = if (n : Int) ≤ j ∧ j < n + sizeA ts then 1 else 0
  | [], n, j, hg => by
    rw [if_neg (by simp only [sizeA]; omega)]
    simp [topsA, postA]
  | t :: ts, n, j, hg => by
    have pt := size_pos t
    have ih := postA_count ts (n + t.size) j fun x hx => hg x (by simp [hx])
    have hc := post_count t n j (hg t (by simp)).1
    have es : sizeA (t :: ts) = t.size + sizeA ts := rfl
    rw [es]
    simp only [topsA, postA, List.flatMap_append, List.cons_append, List.count_cons, List.count_append, beq_iff_eq] at ih ⊢
    rw [hc]
    by_cases e1 : (n : Int) + t.size - 1 = j
    · rw [if_pos e1, if_neg (by omega)]
      rw [if_neg (by omega)] at ih
      rw [if_pos (by omega)]
      omega
    · rw [if_neg e1]
      by_cases e3 : (n : Int) ≤ j ∧ j + 1 < n + t.size
      · rw [if_pos e3]
        rw [if_neg (by omega)] at ih
        rw [if_pos (by omega)]
        omega
      · rw [if_neg e3]
        by_cases e4 : ((n + t.size : Nat) : Int) ≤ j ∧ j < (n + t.size : Nat) + sizeA ts
        · rw [if_pos e4] at ih
          rw [if_pos (by omega)]
          omega
        · rw [if_neg e4] at ih
          rw [if_neg (by omega)]
          omega
theorem topsA_in : ∀ (ts : List DT) (n : Nat), ∀ x ∈ topsA n ts, (n : Int) ≤ x ∧ x < n + sizeA ts
  | [], n, x, h => by cases h
  | t :: ts, n, x, h => by
    have pt := size_pos t
    simp only [topsA] at h
    simp only [sizeA]
    rcases List.mem_cons.1 h with rfl | h
    · omega
    · have := topsA_in ts _ x h
      omega
theorem cells_go : ∀ (cs : List KDatum) (k : Nat) (u : List Int), (∀ (i : Nat) c, cs[i]? = some c → lowB (k + i) c = true) → ∃ r, (cs.zipIdx k).foldlM cellStep u = some r
  | [], k, u, h => ⟨u, rfl⟩
  | c :: cs, k, u, h => by
    rw [List.zipIdx_cons, List.foldlM_cons]
    have h0 : lowB k c = true := h 0 c rfl
    have hs : ∀ (i : Nat) c', cs[i]? = some c' → lowB (k + 1 + i) c' = true := fun i c' hi => by
      have := h (i + 1) c' (by simpa using hi)
      rwa [show k + (i + 1) = k + 1 + i by omega] at this
    by_cases h5 : c.kind = 5
    · obtain ⟨r, hr⟩ := cells_go cs (k + 1) (bump (bump u c.l) c.r) hs
      exact ⟨r, by simp only [cellStep, if_pos h5, h0, if_true]; exact hr⟩
    · obtain ⟨r, hr⟩ := cells_go cs (k + 1) u hs
      exact ⟨r, by simp only [cellStep, if_neg h5]; exact hr⟩
theorem tops_go : ∀ (ts u : List Int), (∀ x ∈ ts, 0 ≤ x ∧ x < u.length) → ∃ r, ts.foldlM topStep u = some r
  | [], u, h => ⟨u, rfl⟩
  | x :: ts, u, h => by
    rw [List.foldlM_cons]
    obtain ⟨r, hr⟩ := tops_go ts (bump u x) fun y hy => by rw [bump_length]; exact h y (by simp [hy])
    exact ⟨r, by simp only [topStep, if_pos (h x (by simp))]; exact hr⟩
theorem whole_if {d : KData} (h : Whole d) : wholeB d = true := by
  obtain ⟨u, hu⟩ := cells_go d.cells 0 (List.replicate d.cells.length 0) fun i c hc => by simpa using h.low i c hc
  obtain ⟨a1, a2, a3⟩ := cells_seen d.cells 0 _ u (by simp) hu
  rw [List.length_replicate] at a2
  obtain ⟨r, hr⟩ := tops_go d.tops u fun x hx => by rw [a2]; exact h.top x hx
  obtain ⟨b1, b2, b3⟩ := tops_seen d.tops u r hr
  unfold wholeB seenB
  rw [hu]
  simp only
  rw [hr]
  simp only
  rw [List.all_eq_true]
  intro x hx
  obtain ⟨j, hj⟩ := List.getElem?_of_mem hx
  have hjl := (List.getElem?_eq_some_iff.1 hj).1
  have h3 := b3 j
  rw [a3 j, List.getD_eq_getElem?_getD, hj, Option.getD_some] at h3
  have h5 : (List.replicate d.cells.length (0 : Int)).getD j 0 = 0 := by
    rw [List.getD_eq_getElem?_getD, List.getElem?_replicate]
    split <;> rfl
  rw [h5] at h3
  have h6 := h.once j (by omega)
  rw [List.count_append] at h6
  rw [decide_eq_true_iff]
  omega
theorem whole_post {ts : List DT} (h : GoodA ts) : Whole ⟨postA 0 ts, topsA 0 ts⟩ := by
  refine ⟨fun i c hc => by have := postA_low ts 0 i c h hc; rwa [Nat.zero_add] at this, fun x hx => ?_, fun j hj => ?_⟩
  · have := topsA_in ts 0 x hx
    simp only [postA_length]
    omega
  · simp only [postA_length] at hj
    have := postA_count ts 0 j h
    rw [if_pos (by omega)] at this
    exact this
theorem tree_post (cs : List KDatum) : ∀ (t : DT) (n : Nat), t.Good → (∀ j, j < t.size → cs[n + j]? = (post n t)[j]?) → TreeAt cs ((n : Int) + t.size - 1) t
  | .atom x, n, hg, h => by
    have : x.kind ≠ 5 := by
      rcases hg with rfl | hg
      · decide
      · exact hg.k5
    have h1 := h 0 (by simp [DT.size])
    simp only [DT.size]
    refine .atom _ x (by omega) ?_ this
    rw [show ((n : Int) + (1 : Nat) - 1).toNat = n + 0 by omega, h1]
    rfl
  | .pair a b, n, hg, h => by
    have pa := size_pos a
    have pb := size_pos b
    have la := post_length n a
    have lb := post_length (n + a.size) b
    simp only [DT.size] at h ⊢
    have ha := tree_post cs a n hg.1 fun j hj => by
      rw [h j (by omega), post_pair, List.getElem?_append_left (by omega)]
    have hb := tree_post cs b (n + a.size) hg.2 fun j hj => by
      have := h (a.size + j) (by omega)
      rw [← Nat.add_assoc] at this
      rw [this, post_pair, List.getElem?_append_right (by omega), la, Nat.add_sub_cancel_left, List.getElem?_append_left (by omega)]
    have hl := h (a.size + b.size) (by omega)
    rw [post_pair, List.getElem?_append_right (by omega), la, Nat.add_sub_cancel_left, List.getElem?_append_right (by omega), lb, Nat.sub_self] at hl
    refine .pair _ _ a b (by omega) (by rw [show ((n : Int) + (a.size + b.size + 1 : Nat) - 1).toNat = n + (a.size + b.size) by omega]; exact hl) rfl ?_ ?_
    · exact ha
    · simp only
      rw [show (n : Int) + a.size + b.size - 1 = ((n + a.size : Nat) : Int) + b.size - 1 by omega]
      exact hb
theorem topsT_post (cs : List KDatum) : ∀ (ts : List DT) (n : Nat), GoodA ts → (∀ j, j < sizeA ts → cs[n + j]? = (postA n ts)[j]?) → topsT cs (topsA n ts) = txts ts
  | [], n, hg, h => rfl
  | t :: ts, n, hg, h => by
    have la := post_length n t
    have h1 := tree_post cs t n (hg t (by simp)).1 fun j hj => by
      rw [h j (by simp only [sizeA]; omega)]
      simp only [postA]
      rw [List.getElem?_append_left (by omega)]
    have ih := topsT_post cs ts (n + t.size) (fun x hx => hg x (by simp [hx])) fun j hj => by
      have := h (t.size + j) (by simp only [sizeA]; omega)
      rw [← Nat.add_assoc] at this
      rw [this]
      simp only [postA]
      rw [List.getElem?_append_right (by omega), la, Nat.add_sub_cancel_left]
    unfold topsT at ih ⊢
    unfold txts at ih ⊢
    simp only [topsA, List.flatMap_cons]
    rw [txtAt_of h1, ih]
theorem show_post {ts : List DT} (h : GoodA ts) : showB ⟨postA 0 ts, topsA 0 ts⟩ = txts ts := by
  unfold showB
  rw [if_pos (whole_if (whole_post h))]
  exact topsT_post _ ts 0 h fun j _ => by rw [Nat.zero_add]
/-- What is read is shown as a text that is read as the same; what stands around changes nothing. -/
theorem read_show {s : ByteArray} (h : (readR s).2 = -1) : readR ⟨(showB (readR s).1).toArray⟩ = readR s := by
  obtain ⟨ts, h1, h2, h3⟩ := read_sound h
  rw [h3, show_post h1.good, read_complete (ts := ts) (by simpa using rds_txts ts h1.good) h2]
  rw [← h3, ← h]
theorem read_around {s : ByteArray} (h : (readR s).2 = -1) : readR ((⟨#[32, 59, 32, 120, 10, 9]⟩ : ByteArray) ++ s ++ ⟨#[10, 32, 59, 32, 101, 110, 100]⟩) = readR s := by
  obtain ⟨ts, h1, h2, h3⟩ := read_sound h
  rw [read_complete (ts := ts) ?_ h2, ← h3, ← h]
  have e : ((⟨#[32, 59, 32, 120, 10, 9]⟩ : ByteArray) ++ s ++ ⟨#[10, 32, 59, 32, 101, 110, 100]⟩).data.toList = [32, 59, 32, 120, 10, 9] ++ (s.data.toList ++ [10, 32, 59, 32, 101, 110, 100]) := by
    rw [ByteArray.data_append, ByteArray.data_append, Array.toList_append, Array.toList_append, List.append_assoc]
  rw [e]
  refine (h1.around [10, 32, 59, 32, 101, 110, 100] ?_ ?_).ahead _ ?_
  · intro b hb
    simp at hb
    subst hb
    decide
  · intro c
    cases c <;> decide
  · simp [skL, blnk]
    omega
/-! How large what is read may be. -/
theorem atomD_size {t : ByteArray} {c : KDatum} (h : atomD t = some c) : c.s.size ≤ 16 := by
  unfold atomD at h
  split at h
  · obtain rfl := (Option.some.inj h).symm; exact Nat.zero_le _
  · split at h
    · obtain rfl := (Option.some.inj h).symm; exact Nat.zero_le _
    · split at h
      · obtain rfl := (Option.some.inj h).symm; exact Nat.zero_le _
      · split at h
        · rename_i hs
          obtain rfl := (Option.some.inj h).symm
          exact sym_size hs
        · cases h
theorem post_small : ∀ (t : DT) (n : Nat), t.Good → ∀ c ∈ post n t, c.s.size ≤ 16
  | .atom x, n, hg, c, hc => by
    simp [post] at hc
    subst hc
    rcases hg with rfl | hg
    · exact Nat.zero_le _
    · exact atomD_size hg.t
  | .pair a b, n, hg, c, hc => by
    rw [post_pair] at hc
    rcases List.mem_append.1 hc with hc | hc
    · exact post_small a n hg.1 c hc
    · rcases List.mem_append.1 hc with hc | hc
      · exact post_small b _ hg.2 c hc
      · obtain rfl := List.mem_singleton.1 hc
        exact Nat.zero_le _
theorem postA_small : ∀ (ts : List DT) (n : Nat), GoodA ts → ∀ c ∈ postA n ts, c.s.size ≤ 16
  | [], n, hg, c, hc => by cases hc
  | t :: ts, n, hg, c, hc => by
    simp only [postA] at hc
    rcases List.mem_append.1 hc with hc | hc
    · exact post_small t n (hg t (by simp)).1 c hc
    · exact postA_small ts _ (fun x hx => hg x (by simp [hx])) c hc
theorem topsA_length : ∀ (ts : List DT) (n : Nat), (topsA n ts).length ≤ sizeA ts
  | [], n => Nat.le_refl _
  | t :: ts, n => by
    have := topsA_length ts (n + t.size)
    have := size_pos t
    simp only [topsA, sizeA, List.length_cons]
    omega
theorem readR_bad (s : ByteArray) : (readR s).2 = -1 ∨ (0 ≤ (readR s).2 ∧ (readR s).2 ≤ s.size ∧ (readR s).1 = ⟨[], []⟩) := by
  have key : ∀ (k : Nat) (r : RD) (ts : List Int), Fine s r → s.size - r.at_ + 1 ≤ k → (allR s k r ts).1.bad ≤ s.size := by
    intro k
    induction k with
    | zero => intro r ts hf hk; omega
    | succ k ih =>
      intro r ts hf hk
      unfold allR
      split
      · exact hf.b.2
      · have hd := datR_fine s (2 * (s.size - r.at_) + 1) r 0 hf (Nat.le_refl _)
        simp only
        split
        · exact hd.1.b.2
        · have hmv := hd.2 (by omega)
          have hsk := skp_ge s (datR s (2 * (s.size - r.at_) + 1) r 0).at_
          exact ih _ _ (skip_fine hd.1) (by show s.size - skp s _ + 1 ≤ k; omega)
  unfold readR
  simp only
  split
  · rename_i h
    exact .inr ⟨h, key _ _ _ (start_fine s) (by simp only; omega), rfl⟩
  · exact .inl rfl
theorem readR_size (s : ByteArray) : (readR s).1.cells.length ≤ 1000 ∧ (readR s).1.tops.length ≤ 1000 ∧ ∀ c ∈ (readR s).1.cells, c.s.size ≤ 16 := by
  rcases readR_bad s with h | ⟨_, _, h⟩
  · obtain ⟨ts, h1, h2, h3⟩ := read_sound h
    rw [h3]
    refine ⟨by simp only [postA_length]; exact h2, Nat.le_trans (topsA_length ts 0) h2, postA_small ts 0 h1.good⟩
  · rw [h]
    exact ⟨by simp, by simp, fun c hc => by cases hc⟩
end Go.VS
