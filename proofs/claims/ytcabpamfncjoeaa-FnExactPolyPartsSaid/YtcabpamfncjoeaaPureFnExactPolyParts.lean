/- The plain part of the proof that the law FnExactPolyParts answers true for every input: what its printed functions compute answers true, for all lists and numbers that the walk hands over; no condition beyond those. -/
import Derived.Test.YtcabpamfncjoeaaPBx10
import Derived.Test.YtcabpamfncjoeaaM
import Derived.Test.YtcabpamfncjoeaaMf
namespace Go.Proofs.Ytcabpamfncjoeaa.Pure
open Go.RowKit Go.Proofs.Ytcabpamfncjoeaa.PB Go.Proofs.YtcabpamfncjoeaaW.PrintWords Go.Proofs.YtcabpamfncjoeaaW.PrintLast Go.Proofs.YtcabpamfncjoeaaW.PrintMore Go.Proofs.Ytcabpamfncjoeaa.M
set_option linter.unusedVariables false
set_option linter.unusedSimpArgs false
set_option maxRecDepth 4000

theorem laws_toIntS_ev (l : List Int) (hn : l.length ≤ 1048576) : Ev (fun k => laws_toIntS.f k l) l := by
  refine Ev.congr (fun k => by rw [laws_toIntS.f]) (ev_pos (by omega) (ev_pos (by omega) ?_))
  refine up_ev (σ := List Int) l.length (fun k s i => laws_toIntS.l0 k l s i) (fun _ _ => l) (fun s i => s.length = l.length ∧ ∀ j : Nat, j < i → rd s (j : Int) = rd l (j : Int)) ?_ ?_ _ 0 (by omega) ⟨by simp, fun j hj => by omega⟩
  · intro s hs
    refine Ev.step (fun k => by rw [laws_toIntS.l0]) ?_
    exact ev_neg (by omega) (ev_val (ext_rd hs.1 fun j hj => hs.2 j (by omega)))
  · intro s i hi hs ih
    refine Ev.step (fun k => by rw [laws_toIntS.l0]) ?_
    refine ev_pos (by omega) (ev_pos (by omega) (ev_pos (by omega) ?_))
    rw [wsucc hi (by omega), show ((i : Nat) : Int).toNat = i by omega]
    refine ih _ ⟨by simp [hs.1], fun j hj => ?_⟩
    have hl : (s.set i (rd l (i : Int))).length = l.length := by simp [hs.1]
    rw [rd_get (by omega), List.getElem_set]
    by_cases e : i = j
    · rw [if_pos e]; subst e; rfl
    · rw [if_neg e, ← rd_get (by omega)]
      exact hs.2 j (by omega)

theorem laws_eqIntS_ev (l : List Int) (hn : l.length ≤ 1000000000000000) : Ev (fun k => laws_eqIntS.f k l l) true := by
  refine Ev.congr (fun k => by rw [laws_eqIntS.f]) (ev_pos rfl ?_)
  refine up_ev (σ := Unit) l.length (fun k _ i => laws_eqIntS.l0 k l l i) (fun _ _ => true) (fun _ _ => True) ?_ ?_ () 0 (by omega) trivial
  · intro _ _
    refine Ev.step (fun k => by rw [laws_eqIntS.l0]) ?_
    exact ev_neg (by omega) (ev_val rfl)
  · intro _ i hi _ ih
    refine Ev.step (fun k => by rw [laws_eqIntS.l0]) ?_
    refine ev_pos (by omega) (ev_pos (by omega) (ev_pos (by omega) (ev_pos rfl ?_)))
    rw [wsucc hi hn]
    exact ih () trivial

theorem l6In_eq (a b c : Int) : spec_l6In.f a b c = some (decide (b ≤ a ∧ a ≤ c)) := by
  unfold spec_l6In.f
  by_cases h : a ≥ b
  · rw [if_pos h]
    simp [show b ≤ a from h]
  · rw [if_neg h]
    simp [show ¬ b ≤ a from h]

theorem spec_l1Bundle_ev (l : List Int) (hn : l.length ≤ 1000000000000000) : Ev (fun k => spec_l1Bundle.f k l) (bl (Bun l)) := by
  have key := up_ev (σ := Unit) l.length (fun k _ i => spec_l1Bundle.l0 k l i) (fun _ i => bl (Ok l i ∧ (∀ j : Nat, i ≤ j + 1 → j + 1 < l.length → rd l (j : Int) ≤ rd l ((j + 1 : Nat) : Int)) ∧ Len9 l)) (fun _ _ => True)
    (by
      intro _ _
      refine Ev.step (fun k => by rw [spec_l1Bundle.l0]) ?_
      refine ev_neg (by omega) (ev_opt (l6In_eq _ _ _) (ev_val ?_))
      refine bl_dec ⟨fun h => ⟨fun j hj hl => by omega, fun j hj hl => by omega, by unfold Len9; omega⟩, fun h => ?_⟩
      have := h.2.2
      unfold Len9 at this
      omega)
    (by
      intro _ i hi _ ih
      have h1 := ih () trivial
      refine Ev.step (fun k => by rw [spec_l1Bundle.l0]) ?_
      refine ev_pos (by omega) (ev_pos (by omega) (ev_opt (l6In_eq _ _ _) ?_))
      refine ev_ite (fun c => ?_) (fun c => ev_val ?_)
      · have c := of_decide_eq_true c
        refine ev_ite (fun c2 => ?_) (fun c2 => ?_)
        · rw [wid (x := (i : Int) - 1) (by omega) (by omega)]
          obtain ⟨m, rfl⟩ : ∃ m, i = m + 1 := ⟨i - 1, by omega⟩
          have e : ((m + 1 : Nat) : Int) - 1 = (m : Int) := by omega
          rw [e]
          refine ev_pos (by omega) (ev_pos (by omega) (ev_ite (fun c3 => ev_val ?_) (fun c3 => ?_)))
          · refine (bl_false fun h => ?_).symm
            have := h.2.1 m (by omega) hi
            omega
          · rw [wsucc hi hn]
            refine ev_eq h1 (bl_congr ⟨fun h => ⟨h.1.cons c.1 c.2, fun j hj hl => ?_, h.2.2⟩, fun h => ⟨h.1.tail, fun j hj hl => h.2.1 j (by omega) hl, h.2.2⟩⟩)
            by_cases e2 : j = m
            · subst e2; omega
            · exact h.2.1 j (by omega) hl
        · rw [wsucc hi hn]
          refine ev_eq h1 (bl_congr ⟨fun h => ⟨h.1.cons c.1 c.2, fun j hj hl => ?_, h.2.2⟩, fun h => ⟨h.1.tail, fun j hj hl => h.2.1 j (by omega) hl, h.2.2⟩⟩)
          exact h.2.1 j (by omega) hl
      · refine (bl_false fun h => c (decide_eq_true ?_)).symm
        exact h.1 i (by omega) hi)
  refine Ev.congr (fun k => by rw [spec_l1Bundle.f]) ?_
  refine ev_eq (key () 0 (by omega) trivial) (bl_congr ?_)
  exact ⟨fun h => ⟨⟨h.1, h.2.2⟩, fun j hj => h.2.1 j (by omega) hj⟩, fun h => ⟨h.1.1, fun j _ hj => h.2 j hj, h.1.2⟩⟩

theorem spec_l1Sum_ev (l : List Int) (h : Rul l) : Ev (fun k => spec_l1Sum.f k l) (tot l) := by
  have hl := h.len
  have key := up_ev (σ := Int) l.length (fun k s i => spec_l1Sum.l0 k l s i) (fun s i => s + tot (l.drop i)) (fun s i => 0 ≤ s ∧ s ≤ 60 * i)
    (by
      intro s _
      refine Ev.step (fun k => by rw [spec_l1Sum.l0]) ?_
      exact ev_neg (by omega) (ev_val (by rw [tot_drop_end]; omega)))
    (by
      intro s i hi hs ih
      have := h.1.at hi
      refine Ev.step (fun k => by rw [spec_l1Sum.l0]) ?_
      refine ev_pos (by omega) (ev_pos (by omega) ?_)
      rw [wsucc hi (by omega), wid (by omega) (by omega)]
      exact ev_eq (ih _ (by omega)) (by rw [tot_drop hi]; omega))
  refine Ev.congr (fun k => by rw [spec_l1Sum.f]) ?_
  exact ev_eq (key 0 0 (by omega) (by omega)) (by simp)

theorem spec_l3Gap_ev (l : List Int) (h : Rul l) : Ev (fun k => spec_l3Gap.f k l) (gap l) := by
  have hl := h.len
  have ht := h.tot
  have hb := lst_bd h
  refine Ev.congr (fun k => by rw [spec_l3Gap.f]) (Ev.bind (spec_l1Sum_ev l h) ?_)
  rw [wid (x := (l.length : Int) - 1) (by omega) (by omega)]
  refine ev_pos (by omega) (ev_pos (by omega) (ev_val ?_))
  show wrap64 (tot l - wrap64 (2 * lst l)) = gap l
  rw [wid (x := 2 * lst l) (by omega) (by omega), wid (by omega) (by omega)]
  rfl

theorem spec_l3Closes_ev (l : List Int) (h : Rul l) : Ev (fun k => spec_l3Closes.f k l) (decide (3 ≤ l.length ∧ 0 < gap l)) := by
  refine Ev.congr (fun k => by rw [spec_l3Closes.f]) (ev_ite (fun c => Ev.bind (spec_l3Gap_ev l h) (ev_val ?_)) (fun c => ev_val ?_))
  · exact decide_eq_decide.2 ⟨fun h => ⟨by omega, h⟩, fun h => h.2⟩
  · exact (decide_eq_false (fun h => by omega)).symm
theorem spec_l3Most_ev (l : List Int) (h : Bun l) : Ev (fun k => spec_l3Most.f k l) (mostM l l.length : Int) := by
  have hl := h.1.len
  have key := down_ev (σ := Unit) (fun k _ i => spec_l3Most.l0 k l i) (fun _ i => (mostM l i : Int)) (fun _ i => i ≤ l.length)
    (by
      intro _ _
      refine Ev.step (fun k => by rw [spec_l3Most.l0]) ?_
      exact ev_neg (by omega) (ev_val rfl))
    (by
      intro _ i hi ih
      have h1 := ih () (by omega)
      refine Ev.step (fun k => by rw [spec_l3Most.l0]) ?_
      by_cases c2 : 2 ≤ i
      · rw [wid (x := ((i + 1 : Nat) : Int) - 1) (by omega) (by omega), show ((i + 1 : Nat) : Int) - 1 = (i : Int) by omega, show (((i + 1 : Nat) : Int)).toNat = i + 1 by omega]
        refine ev_pos (by omega) (ev_pos (by omega) (ev_pos (by omega) (Ev.bind (spec_l3Closes_ev _ (h.take (by omega) hi).1) ?_)))
        have e : (l.take (i + 1)).length = i + 1 := by simp; omega
        rw [e]
        refine ev_ite (fun c => ev_val ?_) (fun c => ev_eq h1 ?_)
        · conv => rhs; unfold mostM
          rw [if_pos (of_decide_eq_true c)]
        · conv => rhs; unfold mostM
          rw [if_neg (fun hh => c (decide_eq_true hh))]
      · refine ev_neg (by omega) (ev_val ?_)
        rw [mostM_low l (i + 1) (by omega)]; rfl)
  refine Ev.congr (fun k => by rw [spec_l3Most.f]) ?_
  exact key l.length () (Nat.le_refl _)

theorem spec_PolyParts_ev (l : List Int) (hn : l.length ≤ 1048576) : Ev (fun k => spec_PolyParts.f k l) (partsM l) := by
  refine Ev.congr (fun k => by rw [spec_PolyParts.f]) (Ev.bind (spec_l1Bundle_ev l (by omega)) ?_)
  unfold partsM
  by_cases h : Bun l
  · rw [bl_true h]
    have hm := mostM_le l l.length
    refine ev_pos rfl (Ev.bind (spec_l3Most_ev l h) (ev_ite (fun c => ev_val ?_) (fun c => ?_)))
    · rw [cond_true, if_pos (by omega)]
    · refine ev_opt rfl ?_
      refine Ev.bind (spec_l3Most_ev l h) ?_
      rw [show ((mostM l l.length : Nat) : Int).toNat = mostM l l.length by omega]
      refine ev_pos (by omega) (ev_pos (by omega) (ev_pos (by simp; omega) (ev_val ?_)))
      rw [cond_true, if_neg (by omega)]; rfl
  · rw [bl_false h]
    exact ev_neg (by simp) (ev_val rfl)

theorem impl_isRuler_ev (l : List Int) (hn : l.length ≤ 1000000000000000) : Ev (fun k => impl_isRuler.f k l) (bl (Rul l)) := by
  have key := up_ev (σ := Unit) l.length (fun k _ i => impl_isRuler.l0 k l l (l.length : Int) i) (fun _ i => bl (Ok l i ∧ Len9 l)) (fun _ _ => True)
    (by
      intro _ _
      refine Ev.step (fun k => by rw [impl_isRuler.l0]) ?_
      refine ev_neg (by omega) (ev_ite (fun c => ev_val ?_) (fun c => ev_val ?_))
      · refine bl_dec ⟨fun h => ⟨fun j hj hl => by omega, by unfold Len9; omega⟩, fun h => ?_⟩
        have := h.2
        unfold Len9 at this
        omega
      · refine (bl_false fun h => ?_).symm
        have := h.2
        unfold Len9 at this
        omega)
    (by
      intro _ i hi _ ih
      have h1 := ih () trivial
      refine Ev.step (fun k => by rw [impl_isRuler.l0]) ?_
      refine ev_pos (by omega) (ev_pos (by omega) (ev_pos (by omega) ?_))
      refine ev_ite (fun c => ev_val ?_) (fun c => ev_ite (fun c2 => ev_val ?_) (fun c2 => ?_))
      · refine (bl_false fun h => ?_).symm
        have := h.1 i (by omega) hi
        omega
      · refine (bl_false fun h => ?_).symm
        have := h.1 i (by omega) hi
        omega
      · rw [wsucc hi hn]
        exact ev_eq h1 (bl_congr ⟨fun h => ⟨h.1.cons (by omega) (by omega), h.2⟩, fun h => ⟨h.1.tail, h.2⟩⟩))
  refine Ev.congr (fun k => by rw [impl_isRuler.f]) ?_
  refine ev_eq (key () 0 (by omega) trivial) (bl_congr ?_)
  exact ⟨fun h => ⟨h.1, h.2⟩, fun h => ⟨h.1, h.2⟩⟩

theorem less_eq (a b : Int) : cmp_Less_int.f a b = some (decide (a < b)) := by
  simp [cmp_Less_int.f, cmp_isNaN_int.f]
theorem slices_IsSorted_ev (l : List Int) (hn : l.length ≤ 1000000000000000) : Ev (fun k => slices_IsSorted_int_int.f k l) (bl (Asc l)) := by
  have key := down_ev (σ := Unit) (fun k _ i => slices_IsSorted_int_int.l0 k l i) (fun _ i => bl (∀ j : Nat, j < i → rd l (j : Int) ≤ rd l ((j + 1 : Nat) : Int))) (fun _ i => i < l.length)
    (by
      intro _ _
      refine Ev.step (fun k => by rw [slices_IsSorted_int_int.l0]) ?_
      exact ev_neg (by omega) (ev_val (bl_true (fun j hj => by omega)).symm))
    (by
      intro _ i hi ih
      have h1 := ih () (by omega)
      refine Ev.step (fun k => by rw [slices_IsSorted_int_int.l0]) ?_
      rw [wid (x := ((i + 1 : Nat) : Int) - 1) (by omega) (by omega), show ((i + 1 : Nat) : Int) - 1 = (i : Int) by omega]
      refine ev_pos (by omega) (ev_pos (by omega) (ev_pos (by omega) (ev_pos (by omega) (ev_pos (by omega) (ev_opt (less_eq _ _) ?_)))))
      refine ev_ite (fun c => ev_val ?_) (fun c => ?_)
      · have c := of_decide_eq_true c
        refine (bl_false fun h => ?_).symm
        have := h i (by omega)
        omega
      · have c : ¬ _ := fun h => c (decide_eq_true h)
        refine ev_eq h1 (bl_congr ⟨fun h j hj => ?_, fun h j hj => h j (by omega)⟩)
        by_cases e : j = i
        · subst e; omega
        · exact h j (by omega))
  refine Ev.congr (fun k => by rw [slices_IsSorted_int_int.f]) ?_
  rw [wid (x := (l.length : Int) - 1) (by omega) (by omega)]
  by_cases h0 : l.length = 0
  · rw [h0]
    refine Ev.step (fun k => by rw [slices_IsSorted_int_int.l0]) ?_
    exact ev_neg (by omega) (ev_val (bl_true (fun j hj => by omega)).symm)
  · obtain ⟨m, hm⟩ : ∃ m, l.length = m + 1 := ⟨l.length - 1, by omega⟩
    rw [hm, show ((m + 1 : Nat) : Int) - 1 = (m : Int) by omega]
    refine ev_eq (key m () (by omega)) (bl_congr ⟨fun h j hj => h j (by omega), fun h j hj => h j (by omega)⟩)

theorem impl_StickIn_ev (l : List Int) (hn : l.length ≤ 1000000000000000) : Ev (fun k => impl_StickIn.f k l) (bl (Bun l)) := by
  refine Ev.congr (fun k => by rw [impl_StickIn.f]) (Ev.bind (impl_isRuler_ev l hn) ?_)
  refine ev_ite (fun c => Ev.bind (slices_IsSorted_ev l hn) (ev_val (bl_congr ⟨fun h => ⟨bl_iff.1 c, h⟩, fun h => h.2⟩))) (fun c => ev_val ?_)
  exact (bl_false fun h => c (bl_true h.1)).symm

theorem impl_sum_ev (l : List Int) (h : Rul l) : Ev (fun k => impl_sum.f k l) (tot l) := by
  have hl := h.len
  have key := up_ev (σ := Int) l.length (fun k s i => impl_sum.l0 k s l (l.length : Int) i) (fun s i => s + tot (l.drop i)) (fun s i => 0 ≤ s ∧ s ≤ 60 * i)
    (by
      intro s _
      refine Ev.step (fun k => by rw [impl_sum.l0]) ?_
      exact ev_neg (by omega) (ev_val (by rw [tot_drop_end]; omega)))
    (by
      intro s i hi hs ih
      have := h.1.at hi
      refine Ev.step (fun k => by rw [impl_sum.l0]) ?_
      refine ev_pos (by omega) (ev_pos (by omega) (ev_pos (by omega) ?_))
      rw [wsucc hi (by omega), wid (by omega) (by omega)]
      exact ev_eq (ih _ (by omega)) (by rw [tot_drop hi]; omega))
  refine Ev.congr (fun k => by rw [impl_sum.f]) ?_
  exact ev_eq (key 0 0 (by omega) (by omega)) (by simp)

theorem impl_gap_ev (l : List Int) (h : Rul l) : Ev (fun k => impl_gap.f k l) (gap l) := by
  have hl := h.len
  have ht := h.tot
  have hb := lst_bd h
  refine Ev.congr (fun k => by rw [impl_gap.f]) (Ev.bind (impl_sum_ev l h) ?_)
  rw [wid (x := (l.length : Int) - 1) (by omega) (by omega)]
  refine ev_pos (by omega) (ev_pos (by omega) (ev_val ?_))
  show wrap64 (tot l - wrap64 (2 * lst l)) = gap l
  rw [wid (x := 2 * lst l) (by omega) (by omega), wid (by omega) (by omega)]
  rfl

theorem impl_closes_ev (l : List Int) (h : Rul l) : Ev (fun k => impl_closes.f k l) (decide (3 ≤ l.length ∧ 0 < gap l)) := by
  refine Ev.congr (fun k => by rw [impl_closes.f]) (ev_ite (fun c => Ev.bind (impl_gap_ev l h) (ev_val ?_)) (fun c => ev_val ?_))
  · exact decide_eq_decide.2 ⟨fun h => ⟨by omega, h⟩, fun h => h.2⟩
  · exact (decide_eq_false (fun h => by omega)).symm

theorem impl_PolyMost_ev (l : List Int) (hn : l.length ≤ 1048576) : Ev (fun k => impl_PolyMost.f k l) (bif bl (Bun l) then ((mostM l l.length : Int), true) else (0, false)) := by
  refine Ev.congr (fun k => by rw [impl_PolyMost.f]) (Ev.bind (impl_StickIn_ev l (by omega)) (ev_ite (fun c => ?_) (fun c => ev_val ?_)))
  · have h := bl_iff.1 c
    have hl := h.1.len
    rw [c]
    have key := down_ev (σ := Unit) (fun k _ i => impl_PolyMost.l0 k l i) (fun _ i => ((mostM l i : Int), true)) (fun _ i => i ≤ l.length)
      (by
        intro _ _
        refine Ev.step (fun k => by rw [impl_PolyMost.l0]) ?_
        exact ev_neg (by omega) (ev_val rfl))
      (by
        intro _ i hi ih
        have h1 := ih () (by omega)
        refine Ev.step (fun k => by rw [impl_PolyMost.l0]) ?_
        by_cases c2 : 2 ≤ i
        · rw [wid (x := ((i + 1 : Nat) : Int) - 1) (by omega) (by omega), show ((i + 1 : Nat) : Int) - 1 = (i : Int) by omega, show (((i + 1 : Nat) : Int)).toNat = i + 1 by omega]
          refine ev_pos (by omega) (ev_pos (by omega) (ev_pos (by omega) (Ev.bind (impl_closes_ev _ (h.take (by omega) hi).1) ?_)))
          have e : (l.take (i + 1)).length = i + 1 := by simp; omega
          rw [e]
          refine ev_ite (fun c => ev_val ?_) (fun c => ev_eq h1 ?_)
          · conv => rhs; unfold mostM
            rw [if_pos (of_decide_eq_true c)]
          · conv => rhs; unfold mostM
            rw [if_neg (fun hh => c (decide_eq_true hh))]
        · refine ev_neg (by omega) (ev_val ?_)
          rw [mostM_low l (i + 1) (by omega)]; rfl)
    exact key l.length () (Nat.le_refl _)
  · rw [Bool.not_eq_true] at c
    rw [c]; rfl

theorem slices_Clone_eq' (l : List Int) (hn : l.length ≤ 1048576) : slices_Clone_int_int.f l = some l := by
  unfold slices_Clone_int_int.f
  rw [if_pos (by omega)]

theorem impl_PolyParts_ev (l : List Int) (hn : l.length ≤ 1048576) : Ev (fun k => impl_PolyParts.f k l) (partsM l) := by
  refine Ev.congr (fun k => by rw [impl_PolyParts.f]) (Ev.bind (impl_PolyMost_ev l hn) ?_)
  unfold partsM
  by_cases h : Bun l
  · rw [bl_true h]
    have hm := mostM_le l l.length
    refine ev_pos rfl (ev_ite (fun c => ev_val ?_) (fun c => ?_))
    · have c : (mostM l l.length : Int) = 0 := c
      rw [cond_true, if_pos (by omega)]
    · have c : ¬ (mostM l l.length : Int) = 0 := c
      simp only [cond_true]
      rw [show ((mostM l l.length : Nat) : Int).toNat = mostM l l.length by omega, if_neg (show ¬ mostM l l.length = 0 by omega)]
      exact ev_pos (by omega) (ev_pos (by omega) (ev_opt (slices_Clone_eq' _ (by simp; omega)) (ev_val rfl)))
  · rw [bl_false h]
    exact ev_neg (by simp) (ev_val rfl)

theorem laws_markIntS_ev (l : List Int) (hn : l.length ≤ 1048576) : Ev (fun k => laws_markIntS.f k l 1) (1 + (l.length : Int), mkL 1 l.length) := by
  have key := up_ev (σ := List Int × Int) l.length (fun k s i => laws_markIntS.l0 k s.1 s.2 i) (fun _ _ => (1 + (l.length : Int), mkL 1 l.length)) (fun s i => s.1.length = l.length ∧ s.2 = 1 + (i : Int) ∧ ∀ j : Nat, j < i → rd s.1 (j : Int) = 1 + (j : Int))
    (by
      intro s hs
      refine Ev.step (fun k => by rw [laws_markIntS.l0]) ?_
      refine ev_neg (by omega) (ev_val ?_)
      rw [hs.2.1]
      congr 1
      refine ext_rd (by rw [mkL_len, hs.1]) fun j hj => ?_
      rw [hs.2.2 j (by omega), mkL_rd 1 (by omega)])
    (by
      intro s i hi hs ih
      refine Ev.step (fun k => by rw [laws_markIntS.l0]) ?_
      rw [wsucc hi (by omega), wid (x := s.2 + 1) (by omega) (by omega), show ((i : Nat) : Int).toNat = i by omega]
      refine ev_pos (by omega) (ev_pos (by omega) (ih (_, _) ⟨by simp [hs.1], by show s.2 + 1 = _; omega, fun j hj => ?_⟩))
      show rd (s.1.set i s.2) (j : Int) = _
      rw [rd_set _ (by omega) j (by omega)]
      by_cases e : i = j
      · rw [if_pos e]; omega
      · rw [if_neg e]; exact hs.2.2 j (by omega))
  refine Ev.congr (fun k => by rw [laws_markIntS.f]) ?_
  exact key (l, 1) 0 (by omega) ⟨rfl, by rfl, fun j hj => by omega⟩
theorem laws_heldIntS_ev (n : Nat) (hn : n ≤ 1048576) : Ev (fun k => laws_heldIntS.f k (mkL 1 n) 1) (1 + (n : Int)) := by
  have hl := mkL_len 1 n
  have key := up_ev (σ := Int) n (fun k s i => laws_heldIntS.l0 k (mkL 1 n) s i) (fun _ _ => 1 + (n : Int)) (fun s i => s = 1 + (i : Int))
    (by
      intro s hs
      refine Ev.step (fun k => by rw [laws_heldIntS.l0]) ?_
      exact ev_neg (by omega) (ev_val hs))
    (by
      intro s i hi hs ih
      refine Ev.step (fun k => by rw [laws_heldIntS.l0]) ?_
      rw [wsucc hi (by omega), wid (x := s + 1) (by omega) (by omega)]
      refine ev_pos (by omega) (ev_pos (by omega) (ev_pos (by rw [mkL_rd 1 hi, hs]) (ih _ (by omega)))))
  refine Ev.congr (fun k => by rw [laws_heldIntS.f]) ?_
  exact key 1 0 (by omega) rfl

theorem FnExactPolyParts : laws_FnExactPolyParts.Pure := by
  intro l0 hm h8 hw
  refine Ev.rounds (g := fun k => laws_FnExactPolyParts.f k l0) ?_
  refine Ev.congr (fun k => by rw [laws_FnExactPolyParts.f]) ?_
  refine ev_ite (fun c => ev_val rfl) (fun c => ?_)
  have hn : l0.length ≤ 1048576 := by omega
  have hn' : l0.length ≤ 1000000000000000 := by omega
  have es := spec_PolyParts_ev l0 hn
  have ei := impl_PolyParts_ev l0 hn
  have hrl : (partsM l0).1.length ≤ 1048576 := by
    unfold partsM
    cases bl (Bun l0)
    · simp
    · simp only [cond_true]
      split
      · simp
      · simp; omega
  generalize partsM l0 = r at *
  obtain ⟨r, b⟩ := r
  simp only [] at hrl
  have et := laws_toIntS_ev l0 hn
  have eq := laws_eqIntS_ev r (by omega)
  refine Ev.bind et (Ev.bind es (Ev.bind et (Ev.bind ei (Ev.bind eq (ev_pos rfl ?_)))))
  refine Ev.step (fun k => by rw [laws_FnExactPolyParts.j0]) (ev_neg (by simp) ?_)
  refine Ev.bind et (Ev.bind (laws_eqIntS_ev l0 hn') (ev_pos rfl (Ev.bind (laws_markIntS_ev l0 hn) (ev_neg (by show ¬ 1 + (l0.length : Int) < 0; omega) (Ev.bind eq (ev_pos rfl ?_))))))
  refine Ev.step (fun k => by rw [laws_FnExactPolyParts.j1]) (ev_neg (by simp) ?_)
  refine Ev.bind (laws_markIntS_ev r hrl) (Ev.bind (laws_heldIntS_ev r.length hrl) (ev_neg (by omega) (ev_pos rfl ?_)))
  refine Ev.bind et (Ev.bind ei (Ev.bind eq (ev_pos rfl ?_)))
  refine Ev.step (fun k => by rw [laws_FnExactPolyParts.j2]) (ev_neg (by simp) ?_)
  exact Ev.bind (laws_heldIntS_ev r.length hrl) (ev_neg (by omega) (ev_pos rfl (ev_val rfl)))

end Go.Proofs.Ytcabpamfncjoeaa.Pure
