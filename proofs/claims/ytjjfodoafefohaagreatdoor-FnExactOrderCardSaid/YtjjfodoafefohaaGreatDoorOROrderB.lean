/- The order of sources: the reference's side. -/
import Derived.Test.YtjjfodoafefohaaGreatDoorOROrderA
namespace Go.Proofs.YtjjfodoafefohaaGreatDoor.OR
open Go Go.VS Go.Lib
set_option maxRecDepth 10000
set_option maxHeartbeats 8000000
set_option linter.unusedSimpArgs false
set_option linter.unusedVariables false
theorem l12All (l all : List ByteArray) (hl : (l.length : Int) ≤ 1048576) (ha : (all.length : Int) ≤ 1048576) : A 156 [.leaf (Kstrs false l), .leaf (Kstrs false all)] = some ([.leaf (.bool (inB l all))], [.gone, .gone]) := by
  refine run_spec_l12All ?_
  simp (maxSteps := 1000000) (disch := omega) [if_pos, if_neg, wrap_i64, wrap_u8, spec_l12All.b]
  refine at_all 5 spec_l12All.l0.eq_1 (fun s => decide (s ∈ all)) l (by simp) (fun g => ?_) (fun i x hx hi hp ih => ?_) (fun i x hx hi hp g => ?_)
  · simp (maxSteps := 1000000) (disch := omega) [if_pos, if_neg, wrap_i64, wrap_u8, inB, g]
  · have h1 := l3In x all (by omega)
    rw [hp] at h1
    simp (maxSteps := 1000000) (disch := omega) [if_pos, if_neg, wrap_i64, wrap_u8, hx, at_get hx, h1]
    refine run_env ih ?_
    simp
  · have h1 := l3In x all (by omega)
    rw [hp] at h1
    simp (maxSteps := 1000000) (disch := omega) [if_pos, if_neg, wrap_i64, wrap_u8, hx, at_get hx, h1, inB, g]
theorem l12Ok (l : List KSrc) (hl : (l.length : Int) ≤ 1048576) (hu : (KSrc.us l : Int) ≤ 1048576) : A 99 [.leaf (KSrc.sl false l)] = some ([.leaf (.bool (srcsB l))], [.gone]) := by
  have hs0 : srcsB l = (l.foldlM (okStep (l.map KSrc.name)) []).isSome := by
    rw [ok_fold]
    rfl
  rw [hs0]
  refine run_spec_l12Ok ?_
  simp (maxSteps := 1000000) (disch := omega) [if_pos, if_neg, wrap_i64, wrap_u8, spec_l12Ok.b]
  refine at_foldM (fun e i (s : List ByteArray) => e.put 3 (.v (.leaf (.int .i64 i)))) spec_l12Ok.l1.eq_1 (okStep (l.map KSrc.name)) l [] (by simp) (fun s g => ?_) (fun i x s s' hx hi hs hf ih => ?_) (fun i x s hx hi hs hf g => ?_)
  · rw [g]
    simp (maxSteps := 1000000) (disch := omega) [if_pos, if_neg, wrap_i64, wrap_u8, ]
  · have hst := ok_state _ _ _ _ hs
    rw [List.nil_append] at hst
    have hxu := srcs_at hx
    have k1 := specSrcOk x (by omega)
    have k2 := l12At (l.take i) x.name (by rw [List.length_take]; omega)
    have k3 := at_mem (l.take i) x.name
    have k4 := fun n => l12At l n hl
    have k5 := fun n => at_mem l n
    simp only [KSrc.w] at hxu
    rw [okStep_at] at hf
    split at hf
    · rename_i hp
      simp only [Bool.and_eq_true, Bool.not_eq_true', decide_eq_false_iff_not] at hp
      obtain ⟨p1, p2, p3⟩ := hp
      rw [hst] at p2
      rw [p1] at k1
      generalize findB (fun s : KSrc => decide (s.name = x.name)) (l.take i) 0 = j at *
      have hj : ¬ 0 ≤ j := fun h => p2 (k3.1 h)
      simp only [KSrc.sl, List.map_take] at k2
      simp (maxSteps := 1000000) (disch := omega) [if_pos, if_neg, wrap_i64, wrap_u8, hx, at_get hx, k1, k2, hj]
      refine at_all 4 spec_l12Ok.l0.eq_1 (fun n => decide (n ∈ l.map KSrc.name)) x.imports (by simp) (fun g2 => ?_) (fun j n hn hj2 hp2 ih2 => ?_) (fun j n hn hj2 hp2 g2 => ?_)
      · simp (maxSteps := 1000000) (disch := omega) [if_pos, if_neg, wrap_i64, wrap_u8, hx, at_get hx]
        refine run_env ih ?_
        simp
      · have q1 := k4 n
        have q2 := (k5 n).2 (by simpa using hp2)
        generalize findB (fun s : KSrc => decide (s.name = n)) l 0 = j2 at *
        have q3 : ¬ j2 < 0 := by omega
        simp (maxSteps := 1000000) (disch := omega) [if_pos, if_neg, wrap_i64, wrap_u8, hx, at_get hx, hn, at_get hn, q1, q3]
        refine run_env ih2 ?_
        simp
      · exfalso
        unfold inB at p3
        rw [g2] at p3
        cases p3
    · cases hf
  · have hst := ok_state _ _ _ _ hs
    rw [List.nil_append] at hst
    have hxu := srcs_at hx
    have k1 := specSrcOk x (by omega)
    have k2 := l12At (l.take i) x.name (by rw [List.length_take]; omega)
    have k3 := at_mem (l.take i) x.name
    have k4 := fun n => l12At l n hl
    have k5 := fun n => at_mem l n
    simp only [KSrc.w] at hxu
    rw [g, Option.isSome_none]
    rw [okStep_at] at hf
    split at hf
    · cases hf
    · rename_i hp
      rw [hst] at hp
      generalize findB (fun s : KSrc => decide (s.name = x.name)) (l.take i) 0 = j at *
      simp only [KSrc.sl, List.map_take] at k2
      cases p1 : srcB x <;> rw [p1] at k1 hp
      · simp (maxSteps := 1000000) (disch := omega) [if_pos, if_neg, wrap_i64, wrap_u8, hx, at_get hx, k1]
      · by_cases p2 : x.name ∈ (l.take i).map KSrc.name
        · have hj := k3.2 p2
          simp (maxSteps := 1000000) (disch := omega) [if_pos, if_neg, wrap_i64, wrap_u8, hx, at_get hx, k1, k2, hj]
        · have hj : ¬ 0 ≤ j := fun h => p2 (k3.1 h)
          have p3 : inB x.imports (l.map KSrc.name) = false := by
            rw [decide_eq_false p2] at hp
            simpa using hp
          simp (maxSteps := 1000000) (disch := omega) [if_pos, if_neg, wrap_i64, wrap_u8, hx, at_get hx, k1, k2, hj]
          refine at_all 4 spec_l12Ok.l0.eq_1 (fun n => decide (n ∈ l.map KSrc.name)) x.imports (by simp) (fun g2 => ?_) (fun j n hn hj2 hp2 ih2 => ?_) (fun j n hn hj2 hp2 g2 => ?_)
          · exfalso
            unfold inB at p3
            rw [g2] at p3
            cases p3
          · have q1 := k4 n
            have q2 := (k5 n).2 (by simpa using hp2)
            generalize findB (fun s : KSrc => decide (s.name = n)) l 0 = j2 at *
            have q3 : ¬ j2 < 0 := by omega
            simp (maxSteps := 1000000) (disch := omega) [if_pos, if_neg, wrap_i64, wrap_u8, hx, at_get hx, hn, at_get hn, q1, q3]
            refine run_env ih2 ?_
            simp
          · have q1 := k4 n
            have q2 : ¬ 0 ≤ findB (fun s : KSrc => decide (s.name = n)) l 0 := fun h => by
              have := (k5 n).1 h
              rw [decide_eq_true this] at hp2
              cases hp2
            generalize findB (fun s : KSrc => decide (s.name = n)) l 0 = j2 at *
            have q3 : j2 < 0 := by omega
            simp (maxSteps := 1000000) (disch := omega) [if_pos, if_neg, wrap_i64, wrap_u8, hx, at_get hx, hn, at_get hn, q1, q3]
theorem specOrderF (l : List KSrc) (hl : (l.length : Int) ≤ 1048576) (hu : (KSrc.us l : Int) ≤ 1048576) (hn : ∀ s ∈ l, ¬ s.name = ⟨#[]⟩) : A 100 [.leaf (KSrc.sl false l)] = some ([.leaf (Kstrs true ((orderF l l.length []).getD [])), .leaf (.bool (orderF l l.length []).isSome)], [.gone]) := by
  refine run_spec_l12Order ?_
  simp (maxSteps := 1000000) (disch := omega) [if_pos, if_neg, wrap_i64, wrap_u8, spec_l12Order.b]
  generalize hR : orderF l l.length [] = R
  refine at_while (σ := List ByteArray) (fun e s => e.put 4 (.v (.leaf (Kstrs true s)))) spec_l12Order.l1.eq_1 (fun s => l.length - s.length) (fun s => s.length ≤ l.length ∧ orderF l (l.length - s.length) s = R) [] (by simp) ⟨by simp, by simpa using hR⟩ ?_
  rintro out ⟨h1, h2⟩ ih
  by_cases hlt : (out.length : Int) < l.length
  · obtain ⟨d, hd⟩ : ∃ d, l.length - out.length = d + 1 := ⟨l.length - out.length - 1, by omega⟩
    rw [hd] at h2
    simp only [orderF] at h2
    have hF := spec_fold out l ⟨#[]⟩ none hn (.inl ⟨rfl, rfl⟩)
    rw [← nextB_eq] at hF
    simp (maxSteps := 1000000) (disch := omega) [if_pos, if_neg, wrap_i64, wrap_u8, hlt]
    refine at_fold (fun e i (s : ByteArray) => (e.put 6 (.v (.leaf (.int .i64 i)))).put 5 (.v (.leaf (.str s)))) spec_l12Order.l0.eq_1 (specStep out) l ⟨#[]⟩ (by simp) ?_ (fun i x hx hi ih2 => ?_)
    · generalize l.foldl (specStep out) ⟨#[]⟩ = b at *
      rcases hF with ⟨e1, e2⟩ | ⟨e1, e2⟩
      · rw [e2] at h2
        simp only at h2
        subst h2
        subst e1
        simp (maxSteps := 1000000) (disch := omega) [if_pos, if_neg, wrap_i64, wrap_u8, ]
      · rw [e2] at h2
        simp only at h2
        have ih := ih (out ++ [b]) (by simp; omega) ⟨by simp; omega, by rw [← h2]; congr 1; simp; omega⟩
        simp (maxSteps := 1000000) (disch := omega) [if_pos, if_neg, wrap_i64, wrap_u8, e1]
        refine run_env ih ?_
        simp
    · generalize (l.take i).foldl (specStep out) ⟨#[]⟩ = b at *
      simp only [specStep] at ih2
      have hxu := srcs_at hx
      simp only [KSrc.w] at hxu
      have k1 := l3In x.name out (by omega)
      have k2 := l12All x.imports out (by omega) (by omega)
      unfold readyB at ih2
      by_cases p1 : x.name ∈ out
      · rw [decide_eq_true p1] at k1 ih2
        simp only [Bool.not_true, Bool.false_and] at ih2
        simp (maxSteps := 1000000) (disch := omega) [if_pos, if_neg, wrap_i64, wrap_u8, hx, at_get hx, k1]
        refine run_env ih2 ?_
        simp
      · rw [decide_eq_false p1] at k1 ih2
        simp only [Bool.not_false, Bool.true_and] at ih2
        cases p2 : inB x.imports out
        · rw [p2] at k2 ih2
          simp only [Bool.false_and] at ih2
          simp (maxSteps := 1000000) (disch := omega) [if_pos, if_neg, wrap_i64, wrap_u8, hx, at_get hx, k1, k2]
          refine run_env ih2 ?_
          simp
        · rw [p2] at k2 ih2
          simp only [Bool.true_and] at ih2
          by_cases e1 : b = ⟨#[]⟩
          · rw [decide_eq_true e1, Bool.true_or] at ih2
            simp (maxSteps := 1000000) (disch := omega) [if_pos, if_neg, wrap_i64, wrap_u8, hx, at_get hx, k1, k2, e1]
            refine run_env ih2 ?_
            simp [e1]
          · rw [decide_eq_false e1, Bool.false_or] at ih2
            unfold less at ih2
            cases p3 : Op.bytesLess x.name.toList b.toList
            · rw [p3] at ih2
              simp (maxSteps := 1000000) (disch := omega) [if_pos, if_neg, wrap_i64, wrap_u8, hx, at_get hx, k1, k2, e1, p3]
              refine run_env ih2 ?_
              simp
            · rw [p3] at ih2
              simp (maxSteps := 1000000) (disch := omega) [if_pos, if_neg, wrap_i64, wrap_u8, hx, at_get hx, k1, k2, e1, p3]
              refine run_env ih2 ?_
              simp
  · have hd : l.length - out.length = 0 := by omega
    rw [hd] at h2
    simp only [orderF] at h2
    subst h2
    simp (maxSteps := 1000000) (disch := omega) [if_pos, if_neg, wrap_i64, wrap_u8, hlt]
theorem specOrder (l : List KSrc) (hl : (l.length : Int) ≤ 1048576) (hu : (KSrc.us l : Int) ≤ 1048576) : A 35 [.leaf (KSrc.sl false l)] = some ([.leaf (Kstrs true ((orderB l).getD [])), .leaf (.bool (orderB l).isSome)], [.gone]) := by
  have h1 := l12Ok l hl hu
  unfold orderB
  refine run_spec_Order ?_
  cases hk : srcsB l with
  | false =>
    rw [hk] at h1
    simp (maxSteps := 1000000) (disch := omega) [if_pos, if_neg, wrap_i64, wrap_u8, spec_Order.b, h1]
  | true =>
    rw [hk] at h1
    have hn : ∀ s ∈ l, ¬ s.name = ⟨#[]⟩ := by
      intro s hs
      unfold srcsB at hk
      simp only [Bool.and_eq_true, List.all_eq_true] at hk
      exact name_ne (hk.1 s hs).1
    have h2 := specOrderF l hl hu hn
    generalize orderF l l.length [] = R at *
    simp (maxSteps := 1000000) (disch := omega) [if_pos, if_neg, wrap_i64, wrap_u8, spec_Order.b, h1, h2]
end Go.Proofs.YtjjfodoafefohaaGreatDoor.OR
