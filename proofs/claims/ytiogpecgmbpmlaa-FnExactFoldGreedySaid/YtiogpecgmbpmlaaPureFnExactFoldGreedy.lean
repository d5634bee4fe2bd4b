/- The plain part of the proof that the law FnExactFoldGreedy answers true for every input: what its printed functions compute answers true, for all lists and numbers that the walk hands over; no condition beyond those. -/
import Derived.Test.YtiogpecgmbpmlaaPBx6
import Derived.Test.YtiogpecgmbpmlaaM
import Derived.Test.YtiogpecgmbpmlaaMf
namespace Go.Proofs.Ytiogpecgmbpmlaa.Pure
open Go.RowKit Go.Proofs.Ytiogpecgmbpmlaa.PB Go.Proofs.YtiogpecgmbpmlaaW.PrintWords Go.Proofs.YtiogpecgmbpmlaaW.PrintLast Go.Proofs.YtiogpecgmbpmlaaW.PrintMore Go.Proofs.Ytiogpecgmbpmlaa.M
set_option linter.unusedVariables false
set_option linter.unusedSimpArgs false
set_option maxRecDepth 4000

theorem laws_toIntS_ev (l : List Int) (hn : l.length ≤ 1048576) : Ev (fun k => laws_toIntS.f k l) l := by
  refine Ev.congr (fun k => by rw [laws_toIntS.f]) (ev_pos (by omega) (ev_pos (by omega) ?_))
  refine up_ev (σ := List Int) l.length (fun k s i => laws_toIntS.l0 k l s i) (fun _ _ => l) (fun s i => s.length = l.length ∧ ∀ j : Nat, j < i → rd s (j : Int) = rd l (j : Int)) ?_ ?_ _ 0 (by omega) ⟨by simp, fun j hj => by omega⟩
  · intro s hs
    refine Ev.step (fun k => by rw [laws_toIntS.l0]) ?_
    exact ev_neg (by omega) (ev_val (ext_rd hs.1 fun j hj => hs.2 j (by omega)))
  · intro s i hi hs ih
    refine Ev.step (fun k => by rw [laws_toIntS.l0]) ?_
    refine ev_pos (by omega) (ev_pos (by omega) (ev_pos (by omega) ?_))
    rw [wsucc hi (by omega), show ((i : Nat) : Int).toNat = i by omega]
    refine ih _ ⟨by simp [hs.1], fun j hj => ?_⟩
    have hl : (s.set i (rd l (i : Int))).length = l.length := by simp [hs.1]
    rw [rd_get (by omega), List.getElem_set]
    by_cases e : i = j
    · rw [if_pos e]; subst e; rfl
    · rw [if_neg e, ← rd_get (by omega)]
      exact hs.2 j (by omega)

theorem laws_eqIntS_ev (l : List Int) (hn : l.length ≤ 1000000000000000) : Ev (fun k => laws_eqIntS.f k l l) true := by
  refine Ev.congr (fun k => by rw [laws_eqIntS.f]) (ev_pos rfl ?_)
  refine up_ev (σ := Unit) l.length (fun k _ i => laws_eqIntS.l0 k l l i) (fun _ _ => true) (fun _ _ => True) ?_ ?_ () 0 (by omega) trivial
  · intro _ _
    refine Ev.step (fun k => by rw [laws_eqIntS.l0]) ?_
    exact ev_neg (by omega) (ev_val rfl)
  · intro _ i hi _ ih
    refine Ev.step (fun k => by rw [laws_eqIntS.l0]) ?_
    refine ev_pos (by omega) (ev_pos (by omega) (ev_pos (by omega) (ev_pos rfl ?_)))
    rw [wsucc hi hn]
    exact ih () trivial

theorem l6In_eq (a b c : Int) : spec_l6In.f a b c = some (decide (b ≤ a ∧ a ≤ c)) := by
  unfold spec_l6In.f
  by_cases h : a ≥ b
  · rw [if_pos h]
    simp [show b ≤ a from h]
  · rw [if_neg h]
    simp [show ¬ b ≤ a from h]

theorem spec_l5Ruler_ev (l : List Int) (hn : l.length ≤ 1000000000000000) : Ev (fun k => spec_l5Ruler.f k l) (bl (Rul l)) := by
  have key := up_ev (σ := Unit) l.length (fun k _ i => spec_l5Ruler.l0 k l i) (fun _ i => bl (Ok l i ∧ Len9 l)) (fun _ _ => True)
    (by
      intro _ _
      refine Ev.step (fun k => by rw [spec_l5Ruler.l0]) ?_
      refine ev_neg (by omega) (ev_opt (l6In_eq _ _ _) (ev_val ?_))
      refine bl_dec ⟨fun h => ⟨fun j hj hl => by omega, by unfold Len9; omega⟩, fun h => ?_⟩
      have := h.2
      unfold Len9 at this
      omega)
    (by
      intro _ i hi _ ih
      have h1 := ih () trivial
      refine Ev.step (fun k => by rw [spec_l5Ruler.l0]) ?_
      refine ev_pos (by omega) (ev_pos (by omega) (ev_opt (l6In_eq _ _ _) ?_))
      refine ev_ite (fun c => ?_) (fun c => ev_val ?_)
      · have c := of_decide_eq_true c
        rw [wsucc hi hn]
        exact ev_eq h1 (bl_congr ⟨fun h => ⟨h.1.cons (by omega) (by omega), h.2⟩, fun h => ⟨h.1.tail, h.2⟩⟩)
      · refine (bl_false fun h => c (decide_eq_true ?_)).symm
        exact h.1 i (by omega) hi)
  refine Ev.congr (fun k => by rw [spec_l5Ruler.f]) ?_
  refine ev_eq (key () 0 (by omega) trivial) (bl_congr ?_)
  exact ⟨fun h => ⟨h.1, h.2⟩, fun h => ⟨h.1, h.2⟩⟩

theorem spec_FoldGreedy_ev (l : List Int) (hn : l.length ≤ 1000000000000000) : Ev (fun k => spec_FoldGreedy.f k l) (bif bl (Rul l) then ((grM l (mxTo l l.length) l.length).2.2 - (grM l (mxTo l l.length) l.length).2.1, true) else (0, false)) := by
  refine Ev.congr (fun k => by rw [spec_FoldGreedy.f]) (Ev.bind (spec_l5Ruler_ev l hn) (ev_ite (fun c => ?_) (fun c => ev_val ?_)))
  · have h := bl_iff.1 c
    have hl := h.len
    rw [c]
    obtain ⟨m, hm⟩ : ∃ m, m = mxTo l l.length := ⟨_, rfl⟩
    have hmb := mxTo_bd h l.length (Nat.le_refl _)
    rw [← hm] at hmb ⊢
    have key := up_ev (σ := Int × Int × Int) l.length (fun k s i => spec_FoldGreedy.l1 k l m s.1 s.2.1 s.2.2 i) (fun _ _ => ((grM l m l.length).2.2 - (grM l m l.length).2.1, true)) (fun s i => s = grM l m i)
      (by
        intro s hs
        have hb := grM_bd h m l.length (Nat.le_refl _)
        rw [← hs] at hb ⊢
        refine Ev.step (fun k => by rw [spec_FoldGreedy.l1]) ?_
        refine ev_neg (by omega) (ev_val ?_)
        rw [wid (by omega) (by omega)])
      (by
        intro s i hi hs ih
        have hb := grM_bd h m i (by omega)
        have hx := h.1.at hi
        have e : grM l m (i + 1) = if (grM l m i).1 + rd l (i : Int) ≤ m then ((grM l m i).1 + rd l (i : Int), mn (grM l m i).2.1 ((grM l m i).1 + rd l (i : Int)), mx (grM l m i).2.2 ((grM l m i).1 + rd l (i : Int))) else ((grM l m i).1 - rd l (i : Int), mn (grM l m i).2.1 ((grM l m i).1 - rd l (i : Int)), mx (grM l m i).2.2 ((grM l m i).1 - rd l (i : Int))) := rfl
        rw [← hs] at hb e
        refine Ev.step (fun k => by rw [spec_FoldGreedy.l1]) ?_
        rw [wsucc hi (by omega), wid (x := s.1 + rd l (i : Int)) (by omega) (by omega), wid (x := s.1 - rd l (i : Int)) (by omega) (by omega)]
        refine ev_pos (by omega) (ev_pos (by omega) (ev_ite (fun c1 => ?_) (fun c1 => ?_)))
        · rw [if_pos c1] at e
          exact ih (_, _, _) e.symm
        · rw [if_neg c1] at e
          exact ih (_, _, _) e.symm)
    have key0 := up_ev (σ := Int) l.length (fun k s i => spec_FoldGreedy.l0 k l s i) (fun _ _ => ((grM l m l.length).2.2 - (grM l m l.length).2.1, true)) (fun s i => s = mxTo l i)
      (by
        intro s hs
        refine Ev.step (fun k => by rw [spec_FoldGreedy.l0]) (ev_neg (by omega) ?_)
        rw [hs, ← hm]
        exact key (0, 0, 0) 0 (by omega) rfl)
      (by
        intro s i hi hs ih
        refine Ev.step (fun k => by rw [spec_FoldGreedy.l0]) ?_
        rw [wsucc hi (by omega)]
        exact ev_pos (by omega) (ev_pos (by omega) (ih _ (by rw [hs]; rfl))))
    exact key0 0 0 (by omega) rfl
  · rw [Bool.not_eq_true] at c
    rw [c]; rfl

theorem impl_isRuler_ev (l : List Int) (hn : l.length ≤ 1000000000000000) : Ev (fun k => impl_isRuler.f k l) (bl (Rul l)) := by
  have key := up_ev (σ := Unit) l.length (fun k _ i => impl_isRuler.l0 k l l (l.length : Int) i) (fun _ i => bl (Ok l i ∧ Len9 l)) (fun _ _ => True)
    (by
      intro _ _
      refine Ev.step (fun k => by rw [impl_isRuler.l0]) ?_
      refine ev_neg (by omega) (ev_ite (fun c => ev_val ?_) (fun c => ev_val ?_))
      · refine bl_dec ⟨fun h => ⟨fun j hj hl => by omega, by unfold Len9; omega⟩, fun h => ?_⟩
        have := h.2
        unfold Len9 at this
        omega
      · refine (bl_false fun h => ?_).symm
        have := h.2
        unfold Len9 at this
        omega)
    (by
      intro _ i hi _ ih
      have h1 := ih () trivial
      refine Ev.step (fun k => by rw [impl_isRuler.l0]) ?_
      refine ev_pos (by omega) (ev_pos (by omega) (ev_pos (by omega) ?_))
      refine ev_ite (fun c => ev_val ?_) (fun c => ev_ite (fun c2 => ev_val ?_) (fun c2 => ?_))
      · refine (bl_false fun h => ?_).symm
        have := h.1 i (by omega) hi
        omega
      · refine (bl_false fun h => ?_).symm
        have := h.1 i (by omega) hi
        omega
      · rw [wsucc hi hn]
        exact ev_eq h1 (bl_congr ⟨fun h => ⟨h.1.cons (by omega) (by omega), h.2⟩, fun h => ⟨h.1.tail, h.2⟩⟩))
  refine Ev.congr (fun k => by rw [impl_isRuler.f]) ?_
  refine ev_eq (key () 0 (by omega) trivial) (bl_congr ?_)
  exact ⟨fun h => ⟨h.1, h.2⟩, fun h => ⟨h.1, h.2⟩⟩

theorem slices_Max_ev (l : List Int) (h : Rul l) : Ev (fun k => slices_Max_int_int.f k l) (mxTo l l.length) := by
  have hl := h.len
  have key := up_ev (σ := Int) l.length (fun k s i => slices_Max_int_int.l0 k l s i) (fun _ _ => mxTo l l.length) (fun s i => s = mxTo l i)
    (by
      intro s hs
      refine Ev.step (fun k => by rw [slices_Max_int_int.l0]) ?_
      exact ev_neg (by omega) (ev_val hs))
    (by
      intro s i hi hs ih
      refine Ev.step (fun k => by rw [slices_Max_int_int.l0]) ?_
      refine ev_pos (by omega) (ev_pos (by omega) ?_)
      rw [wsucc hi (by omega)]
      exact ih _ (by rw [hs]; rfl))
  refine Ev.congr (fun k => by rw [slices_Max_int_int.f]) (ev_neg (by omega) (ev_pos (by omega) ?_))
  have h0 := h.1.at (i := 0) (by omega)
  exact key _ 1 (by omega) (by
    show rd l 0 = mx 0 (rd l ((0 : Nat) : Int))
    have h0' : 1 ≤ rd l 0 := h0.1
    show rd l 0 = mx 0 (rd l 0)
    unfold mx
    rw [if_pos (by omega)])

theorem impl_FoldGreedy_ev (l : List Int) (hn : l.length ≤ 1000000000000000) : Ev (fun k => impl_FoldGreedy.f k l) (bif bl (Rul l) then ((grM l (mxTo l l.length) l.length).2.2 - (grM l (mxTo l l.length) l.length).2.1, true) else (0, false)) := by
  refine Ev.congr (fun k => by rw [impl_FoldGreedy.f]) (Ev.bind (impl_isRuler_ev l hn) (ev_ite (fun c => ?_) (fun c => ev_val ?_)))
  · have h := bl_iff.1 c
    have hl := h.len
    rw [c]
    refine Ev.bind (slices_Max_ev l h) ?_
    obtain ⟨m, hm⟩ : ∃ m, m = mxTo l l.length := ⟨_, rfl⟩
    have hmb := mxTo_bd h l.length (Nat.le_refl _)
    rw [← hm] at hmb ⊢
    have key := up_ev (σ := Int × Int × Int) l.length (fun k s i => impl_FoldGreedy.l0 k m s.1 s.2.1 s.2.2 l (l.length : Int) i) (fun _ _ => ((grM l m l.length).2.2 - (grM l m l.length).2.1, true)) (fun s i => s = grM l m i)
      (by
        intro s hs
        have hb := grM_bd h m l.length (Nat.le_refl _)
        rw [← hs] at hb ⊢
        refine Ev.step (fun k => by rw [impl_FoldGreedy.l0]) ?_
        refine ev_neg (by omega) (ev_val ?_)
        rw [wid (by omega) (by omega)])
      (by
        intro s i hi hs ih
        have hb := grM_bd h m i (by omega)
        have hx := h.1.at hi
        have e : grM l m (i + 1) = if (grM l m i).1 + rd l (i : Int) ≤ m then ((grM l m i).1 + rd l (i : Int), mn (grM l m i).2.1 ((grM l m i).1 + rd l (i : Int)), mx (grM l m i).2.2 ((grM l m i).1 + rd l (i : Int))) else ((grM l m i).1 - rd l (i : Int), mn (grM l m i).2.1 ((grM l m i).1 - rd l (i : Int)), mx (grM l m i).2.2 ((grM l m i).1 - rd l (i : Int))) := rfl
        rw [← hs] at hb e
        refine Ev.step (fun k => by rw [impl_FoldGreedy.l0]) ?_
        rw [wsucc hi (by omega), wid (x := s.1 + rd l (i : Int)) (by omega) (by omega), wid (x := s.1 - rd l (i : Int)) (by omega) (by omega)]
        refine ev_pos (by omega) (ev_pos (by omega) (ev_pos (by omega) (ev_ite (fun c1 => ?_) (fun c1 => ?_))))
        · rw [if_pos c1] at e
          exact ih (_, _, _) e.symm
        · rw [if_neg c1] at e
          exact ih (_, _, _) e.symm)
    exact key (0, 0, 0) 0 (by omega) rfl
  · rw [Bool.not_eq_true] at c
    rw [c]; rfl

theorem FnExactFoldGreedy : laws_FnExactFoldGreedy.Pure := by
  intro l0 hm h8 hw
  refine Ev.rounds (g := fun k => laws_FnExactFoldGreedy.f k l0) ?_
  refine Ev.congr (fun k => by rw [laws_FnExactFoldGreedy.f]) ?_
  refine ev_ite (fun c => ev_val rfl) (fun c => ?_)
  have hn : l0.length ≤ 1048576 := by omega
  have hn' : l0.length ≤ 1000000000000000 := by omega
  refine Ev.bind (laws_toIntS_ev l0 hn) (Ev.bind (spec_FoldGreedy_ev l0 hn') (Ev.bind (laws_toIntS_ev l0 hn) (Ev.bind (impl_FoldGreedy_ev l0 hn') ?_)))
  refine ev_pos rfl ?_
  refine Ev.step (fun k => by rw [laws_FnExactFoldGreedy.j0]) (ev_neg (by simp) ?_)
  exact Ev.bind (laws_toIntS_ev l0 hn) (Ev.bind (laws_eqIntS_ev l0 hn') (ev_pos rfl (ev_val rfl)))

end Go.Proofs.Ytiogpecgmbpmlaa.Pure
