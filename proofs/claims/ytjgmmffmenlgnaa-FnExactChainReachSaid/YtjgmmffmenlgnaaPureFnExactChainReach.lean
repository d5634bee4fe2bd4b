/- The plain part of the proof that the law FnExactChainReach answers true for every input: what its printed functions compute answers true, for all lists and numbers that the walk hands over; no condition beyond those. -/
import Derived.Test.YtjgmmffmenlgnaaPx9
import Derived.Test.YtjgmmffmenlgnaaM
namespace Go.Proofs.Ytjgmmffmenlgnaa.Pure
open Go.RowKit Go.Proofs.Ytjgmmffmenlgnaa.P Go.Proofs.YtjgmmffmenlgnaaW.PrintWords Go.Proofs.YtjgmmffmenlgnaaW.PrintLast Go.Proofs.YtjgmmffmenlgnaaW.PrintMore Go.Proofs.Ytjgmmffmenlgnaa.M
set_option linter.unusedVariables false
set_option linter.unusedSimpArgs false
set_option maxRecDepth 4000

theorem laws_toIntS_ev (l : List Int) (hn : l.length ≤ 1048576) : Ev (fun k => laws_toIntS.f k l) l := by
  refine Ev.congr (fun k => by rw [laws_toIntS.f]) (ev_pos (by omega) (ev_pos (by omega) ?_))
  refine up_ev (σ := List Int) l.length (fun k s i => laws_toIntS.l0 k l s i) (fun _ _ => l) (fun s i => s.length = l.length ∧ ∀ j : Nat, j < i → rd s (j : Int) = rd l (j : Int)) ?_ ?_ _ 0 (by omega) ⟨by simp, fun j hj => by omega⟩
  · intro s hs
    refine Ev.step (fun k => by rw [laws_toIntS.l0]) ?_
    exact ev_neg (by omega) (ev_val (ext_rd hs.1 fun j hj => hs.2 j (by omega)))
  · intro s i hi hs ih
    refine Ev.step (fun k => by rw [laws_toIntS.l0]) ?_
    refine ev_pos (by omega) (ev_pos (by omega) (ev_pos (by omega) ?_))
    rw [wsucc hi (by omega), show ((i : Nat) : Int).toNat = i by omega]
    refine ih _ ⟨by simp [hs.1], fun j hj => ?_⟩
    have hl : (s.set i (rd l (i : Int))).length = l.length := by simp [hs.1]
    rw [rd_get (by omega), List.getElem_set]
    by_cases e : i = j
    · rw [if_pos e]; subst e; rfl
    · rw [if_neg e, ← rd_get (by omega)]
      exact hs.2 j (by omega)

theorem laws_eqIntS_ev (l : List Int) (hn : l.length ≤ 1000000000000000) : Ev (fun k => laws_eqIntS.f k l l) true := by
  refine Ev.congr (fun k => by rw [laws_eqIntS.f]) (ev_pos rfl ?_)
  refine up_ev (σ := Unit) l.length (fun k _ i => laws_eqIntS.l0 k l l i) (fun _ _ => true) (fun _ _ => True) ?_ ?_ () 0 (by omega) trivial
  · intro _ _
    refine Ev.step (fun k => by rw [laws_eqIntS.l0]) ?_
    exact ev_neg (by omega) (ev_val rfl)
  · intro _ i hi _ ih
    refine Ev.step (fun k => by rw [laws_eqIntS.l0]) ?_
    refine ev_pos (by omega) (ev_pos (by omega) (ev_pos (by omega) (ev_pos rfl ?_)))
    rw [wsucc hi hn]
    exact ih () trivial

theorem l6In_eq (a b c : Int) : spec_l6In.f a b c = some (decide (b ≤ a ∧ a ≤ c)) := by
  unfold spec_l6In.f
  by_cases h : a ≥ b
  · rw [if_pos h]
    simp [show b ≤ a from h]
  · rw [if_neg h]
    simp [show ¬ b ≤ a from h]

theorem spec_l1Bundle_ev (l : List Int) (hn : l.length ≤ 1000000000000000) : Ev (fun k => spec_l1Bundle.f k l) (bl (Bun l)) := by
  have key := up_ev (σ := Unit) l.length (fun k _ i => spec_l1Bundle.l0 k l i) (fun _ i => bl (Ok l i ∧ (∀ j : Nat, i ≤ j + 1 → j + 1 < l.length → rd l (j : Int) ≤ rd l ((j + 1 : Nat) : Int)) ∧ Len9 l)) (fun _ _ => True)
    (by
      intro _ _
      refine Ev.step (fun k => by rw [spec_l1Bundle.l0]) ?_
      refine ev_neg (by omega) (ev_opt (l6In_eq _ _ _) (ev_val ?_))
      refine bl_dec ⟨fun h => ⟨fun j hj hl => by omega, fun j hj hl => by omega, by unfold Len9; omega⟩, fun h => ?_⟩
      have := h.2.2
      unfold Len9 at this
      omega)
    (by
      intro _ i hi _ ih
      have h1 := ih () trivial
      refine Ev.step (fun k => by rw [spec_l1Bundle.l0]) ?_
      refine ev_pos (by omega) (ev_pos (by omega) (ev_opt (l6In_eq _ _ _) ?_))
      refine ev_ite (fun c => ?_) (fun c => ev_val ?_)
      · have c := of_decide_eq_true c
        refine ev_ite (fun c2 => ?_) (fun c2 => ?_)
        · rw [wid (x := (i : Int) - 1) (by omega) (by omega)]
          obtain ⟨m, rfl⟩ : ∃ m, i = m + 1 := ⟨i - 1, by omega⟩
          have e : ((m + 1 : Nat) : Int) - 1 = (m : Int) := by omega
          rw [e]
          refine ev_pos (by omega) (ev_pos (by omega) (ev_ite (fun c3 => ev_val ?_) (fun c3 => ?_)))
          · refine (bl_false fun h => ?_).symm
            have := h.2.1 m (by omega) hi
            omega
          · rw [wsucc hi hn]
            refine ev_eq h1 (bl_congr ⟨fun h => ⟨h.1.cons c.1 c.2, fun j hj hl => ?_, h.2.2⟩, fun h => ⟨h.1.tail, fun j hj hl => h.2.1 j (by omega) hl, h.2.2⟩⟩)
            by_cases e2 : j = m
            · subst e2; omega
            · exact h.2.1 j (by omega) hl
        · rw [wsucc hi hn]
          refine ev_eq h1 (bl_congr ⟨fun h => ⟨h.1.cons c.1 c.2, fun j hj hl => ?_, h.2.2⟩, fun h => ⟨h.1.tail, fun j hj hl => h.2.1 j (by omega) hl, h.2.2⟩⟩)
          exact h.2.1 j (by omega) hl
      · refine (bl_false fun h => c (decide_eq_true ?_)).symm
        exact h.1 i (by omega) hi)
  refine Ev.congr (fun k => by rw [spec_l1Bundle.f]) ?_
  refine ev_eq (key () 0 (by omega) trivial) (bl_congr ?_)
  exact ⟨fun h => ⟨⟨h.1, h.2.2⟩, fun j hj => h.2.1 j (by omega) hj⟩, fun h => ⟨h.1.1, fun j _ hj => h.2 j hj, h.1.2⟩⟩

theorem spec_l1Sum_ev (l : List Int) (h : Rul l) : Ev (fun k => spec_l1Sum.f k l) (tot l) := by
  have hl := h.len
  have key := up_ev (σ := Int) l.length (fun k s i => spec_l1Sum.l0 k l s i) (fun s i => s + tot (l.drop i)) (fun s i => 0 ≤ s ∧ s ≤ 60 * i)
    (by
      intro s _
      refine Ev.step (fun k => by rw [spec_l1Sum.l0]) ?_
      exact ev_neg (by omega) (ev_val (by rw [tot_drop_end]; omega)))
    (by
      intro s i hi hs ih
      have := h.1.at hi
      refine Ev.step (fun k => by rw [spec_l1Sum.l0]) ?_
      refine ev_pos (by omega) (ev_pos (by omega) ?_)
      rw [wsucc hi (by omega), wid (by omega) (by omega)]
      exact ev_eq (ih _ (by omega)) (by rw [tot_drop hi]; omega))
  refine Ev.congr (fun k => by rw [spec_l1Sum.f]) ?_
  exact ev_eq (key 0 0 (by omega) (by omega)) (by simp)

theorem spec_l4Reach_ev (l : List Int) (h : Rul l) : Ev (fun k => spec_l4Reach.f k l) (mx 0 (- gap l), tot l) := by
  have hl := h.len
  have ht := h.tot
  have hb := lst_bd h
  refine Ev.congr (fun k => by rw [spec_l4Reach.f]) (Ev.bind (spec_l1Sum_ev l h) ?_)
  rw [wid (x := (l.length : Int) - 1) (by omega) (by omega)]
  refine ev_pos (by omega) (ev_pos (by omega) (ev_val ?_))
  show (mx 0 (wrap64 (wrap64 (2 * lst l) - tot l)), tot l) = _
  rw [wid (x := 2 * lst l) (by omega) (by omega), wid (by omega) (by omega)]
  unfold gap
  congr 2
  omega

theorem spec_ChainReach_ev (l : List Int) (hn : l.length ≤ 1000000000000000) : Ev (fun k => spec_ChainReach.f k l) (bif bl (Bun l) then (mx 0 (- gap l), tot l, true) else (0, 0, false)) := by
  refine Ev.congr (fun k => by rw [spec_ChainReach.f]) (Ev.bind (spec_l1Bundle_ev l hn) ?_)
  refine ev_ite (fun c => ?_) (fun c => ev_val ?_)
  · have hb := bl_iff.1 c
    refine Ev.bind (spec_l4Reach_ev l hb.1) (ev_val ?_)
    rw [c]; rfl
  · rw [Bool.not_eq_true] at c
    rw [c]; rfl

theorem impl_isRuler_ev (l : List Int) (hn : l.length ≤ 1000000000000000) : Ev (fun k => impl_isRuler.f k l) (bl (Rul l)) := by
  have key := up_ev (σ := Unit) l.length (fun k _ i => impl_isRuler.l0 k l l (l.length : Int) i) (fun _ i => bl (Ok l i ∧ Len9 l)) (fun _ _ => True)
    (by
      intro _ _
      refine Ev.step (fun k => by rw [impl_isRuler.l0]) ?_
      refine ev_neg (by omega) (ev_ite (fun c => ev_val ?_) (fun c => ev_val ?_))
      · refine bl_dec ⟨fun h => ⟨fun j hj hl => by omega, by unfold Len9; omega⟩, fun h => ?_⟩
        have := h.2
        unfold Len9 at this
        omega
      · refine (bl_false fun h => ?_).symm
        have := h.2
        unfold Len9 at this
        omega)
    (by
      intro _ i hi _ ih
      have h1 := ih () trivial
      refine Ev.step (fun k => by rw [impl_isRuler.l0]) ?_
      refine ev_pos (by omega) (ev_pos (by omega) (ev_pos (by omega) ?_))
      refine ev_ite (fun c => ev_val ?_) (fun c => ev_ite (fun c2 => ev_val ?_) (fun c2 => ?_))
      · refine (bl_false fun h => ?_).symm
        have := h.1 i (by omega) hi
        omega
      · refine (bl_false fun h => ?_).symm
        have := h.1 i (by omega) hi
        omega
      · rw [wsucc hi hn]
        exact ev_eq h1 (bl_congr ⟨fun h => ⟨h.1.cons (by omega) (by omega), h.2⟩, fun h => ⟨h.1.tail, h.2⟩⟩))
  refine Ev.congr (fun k => by rw [impl_isRuler.f]) ?_
  refine ev_eq (key () 0 (by omega) trivial) (bl_congr ?_)
  exact ⟨fun h => ⟨h.1, h.2⟩, fun h => ⟨h.1, h.2⟩⟩

theorem less_eq (a b : Int) : cmp_Less_int.f a b = some (decide (a < b)) := by
  simp [cmp_Less_int.f, cmp_isNaN_int.f]
theorem slices_IsSorted_ev (l : List Int) (hn : l.length ≤ 1000000000000000) : Ev (fun k => slices_IsSorted_int_int.f k l) (bl (Asc l)) := by
  have key := down_ev (σ := Unit) (fun k _ i => slices_IsSorted_int_int.l0 k l i) (fun _ i => bl (∀ j : Nat, j < i → rd l (j : Int) ≤ rd l ((j + 1 : Nat) : Int))) (fun _ i => i < l.length)
    (by
      intro _ _
      refine Ev.step (fun k => by rw [slices_IsSorted_int_int.l0]) ?_
      exact ev_neg (by omega) (ev_val (bl_true (fun j hj => by omega)).symm))
    (by
      intro _ i hi ih
      have h1 := ih () (by omega)
      refine Ev.step (fun k => by rw [slices_IsSorted_int_int.l0]) ?_
      rw [wid (x := ((i + 1 : Nat) : Int) - 1) (by omega) (by omega), show ((i + 1 : Nat) : Int) - 1 = (i : Int) by omega]
      refine ev_pos (by omega) (ev_pos (by omega) (ev_pos (by omega) (ev_pos (by omega) (ev_pos (by omega) (ev_opt (less_eq _ _) ?_)))))
      refine ev_ite (fun c => ev_val ?_) (fun c => ?_)
      · have c := of_decide_eq_true c
        refine (bl_false fun h => ?_).symm
        have := h i (by omega)
        omega
      · have c : ¬ _ := fun h => c (decide_eq_true h)
        refine ev_eq h1 (bl_congr ⟨fun h j hj => ?_, fun h j hj => h j (by omega)⟩)
        by_cases e : j = i
        · subst e; omega
        · exact h j (by omega))
  refine Ev.congr (fun k => by rw [slices_IsSorted_int_int.f]) ?_
  rw [wid (x := (l.length : Int) - 1) (by omega) (by omega)]
  by_cases h0 : l.length = 0
  · rw [h0]
    refine Ev.step (fun k => by rw [slices_IsSorted_int_int.l0]) ?_
    exact ev_neg (by omega) (ev_val (bl_true (fun j hj => by omega)).symm)
  · obtain ⟨m, hm⟩ : ∃ m, l.length = m + 1 := ⟨l.length - 1, by omega⟩
    rw [hm, show ((m + 1 : Nat) : Int) - 1 = (m : Int) by omega]
    refine ev_eq (key m () (by omega)) (bl_congr ⟨fun h j hj => h j (by omega), fun h j hj => h j (by omega)⟩)

theorem impl_StickIn_ev (l : List Int) (hn : l.length ≤ 1000000000000000) : Ev (fun k => impl_StickIn.f k l) (bl (Bun l)) := by
  refine Ev.congr (fun k => by rw [impl_StickIn.f]) (Ev.bind (impl_isRuler_ev l hn) ?_)
  refine ev_ite (fun c => Ev.bind (slices_IsSorted_ev l hn) (ev_val (bl_congr ⟨fun h => ⟨bl_iff.1 c, h⟩, fun h => h.2⟩))) (fun c => ev_val ?_)
  exact (bl_false fun h => c (bl_true h.1)).symm

theorem impl_sum_ev (l : List Int) (h : Rul l) : Ev (fun k => impl_sum.f k l) (tot l) := by
  have hl := h.len
  have key := up_ev (σ := Int) l.length (fun k s i => impl_sum.l0 k s l (l.length : Int) i) (fun s i => s + tot (l.drop i)) (fun s i => 0 ≤ s ∧ s ≤ 60 * i)
    (by
      intro s _
      refine Ev.step (fun k => by rw [impl_sum.l0]) ?_
      exact ev_neg (by omega) (ev_val (by rw [tot_drop_end]; omega)))
    (by
      intro s i hi hs ih
      have := h.1.at hi
      refine Ev.step (fun k => by rw [impl_sum.l0]) ?_
      refine ev_pos (by omega) (ev_pos (by omega) (ev_pos (by omega) ?_))
      rw [wsucc hi (by omega), wid (by omega) (by omega)]
      exact ev_eq (ih _ (by omega)) (by rw [tot_drop hi]; omega))
  refine Ev.congr (fun k => by rw [impl_sum.f]) ?_
  exact ev_eq (key 0 0 (by omega) (by omega)) (by simp)

theorem impl_gap_ev (l : List Int) (h : Rul l) : Ev (fun k => impl_gap.f k l) (gap l) := by
  have hl := h.len
  have ht := h.tot
  have hb := lst_bd h
  refine Ev.congr (fun k => by rw [impl_gap.f]) (Ev.bind (impl_sum_ev l h) ?_)
  rw [wid (x := (l.length : Int) - 1) (by omega) (by omega)]
  refine ev_pos (by omega) (ev_pos (by omega) (ev_val ?_))
  show wrap64 (tot l - wrap64 (2 * lst l)) = gap l
  rw [wid (x := 2 * lst l) (by omega) (by omega), wid (by omega) (by omega)]
  rfl

theorem impl_ChainReach_ev (l : List Int) (hn : l.length ≤ 1000000000000000) : Ev (fun k => impl_ChainReach.f k l) (bif bl (Bun l) then (mx 0 (- gap l), tot l, true) else (0, 0, false)) := by
  refine Ev.congr (fun k => by rw [impl_ChainReach.f]) (Ev.bind (impl_StickIn_ev l hn) ?_)
  refine ev_ite (fun c => ?_) (fun c => ev_val ?_)
  · have hb := bl_iff.1 c
    have ht := hb.1.tot
    have hl := lst_bd hb.1
    refine Ev.bind (impl_gap_ev l hb.1) (Ev.bind (impl_sum_ev l hb.1) (ev_val ?_))
    rw [c, wid (by unfold gap; omega) (by unfold gap; omega)]
    rfl
  · rw [Bool.not_eq_true] at c
    rw [c]; rfl

theorem FnExactChainReach : laws_FnExactChainReach.Pure := by
  intro l0 hm h8 hw
  refine Ev.rounds (g := fun k => laws_FnExactChainReach.f k l0) ?_
  refine Ev.congr (fun k => by rw [laws_FnExactChainReach.f]) ?_
  refine ev_ite (fun c => ev_val rfl) (fun c => ?_)
  have hn : l0.length ≤ 1048576 := by omega
  have hn' : l0.length ≤ 1000000000000000 := by omega
  refine Ev.bind (laws_toIntS_ev l0 hn) (Ev.bind (spec_ChainReach_ev l0 hn') (Ev.bind (laws_toIntS_ev l0 hn) (Ev.bind (impl_ChainReach_ev l0 hn') ?_)))
  refine ev_pos rfl (ev_pos rfl ?_)
  refine Ev.step (fun k => by rw [laws_FnExactChainReach.j0]) (ev_neg (by simp) ?_)
  exact Ev.bind (laws_toIntS_ev l0 hn) (Ev.bind (laws_eqIntS_ev l0 hn') (ev_pos rfl (ev_val rfl)))

end Go.Proofs.Ytjgmmffmenlgnaa.Pure
