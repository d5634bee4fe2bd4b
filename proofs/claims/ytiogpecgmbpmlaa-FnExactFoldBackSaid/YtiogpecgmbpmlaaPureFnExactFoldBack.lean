/- The plain part of the proof that the law FnExactFoldBack answers true for every input: what its printed functions compute answers true, for all lists and numbers that the walk hands over; no condition beyond those. -/
import Derived.Test.YtiogpecgmbpmlaaPBx10
import Derived.Test.YtiogpecgmbpmlaaM
import Derived.Test.YtiogpecgmbpmlaaMf
namespace Go.Proofs.Ytiogpecgmbpmlaa.Pure
open Go.RowKit Go.Proofs.Ytiogpecgmbpmlaa.PB Go.Proofs.YtiogpecgmbpmlaaW.PrintWords Go.Proofs.YtiogpecgmbpmlaaW.PrintLast Go.Proofs.YtiogpecgmbpmlaaW.PrintMore Go.Proofs.Ytiogpecgmbpmlaa.M
set_option linter.unusedVariables false
set_option linter.unusedSimpArgs false
set_option maxRecDepth 4000

theorem laws_toIntS_ev (l : List Int) (hn : l.length ≤ 1048576) : Ev (fun k => laws_toIntS.f k l) l := by
  refine Ev.congr (fun k => by rw [laws_toIntS.f]) (ev_pos (by omega) (ev_pos (by omega) ?_))
  refine up_ev (σ := List Int) l.length (fun k s i => laws_toIntS.l0 k l s i) (fun _ _ => l) (fun s i => s.length = l.length ∧ ∀ j : Nat, j < i → rd s (j : Int) = rd l (j : Int)) ?_ ?_ _ 0 (by omega) ⟨by simp, fun j hj => by omega⟩
  · intro s hs
    refine Ev.step (fun k => by rw [laws_toIntS.l0]) ?_
    exact ev_neg (by omega) (ev_val (ext_rd hs.1 fun j hj => hs.2 j (by omega)))
  · intro s i hi hs ih
    refine Ev.step (fun k => by rw [laws_toIntS.l0]) ?_
    refine ev_pos (by omega) (ev_pos (by omega) (ev_pos (by omega) ?_))
    rw [wsucc hi (by omega), show ((i : Nat) : Int).toNat = i by omega]
    refine ih _ ⟨by simp [hs.1], fun j hj => ?_⟩
    have hl : (s.set i (rd l (i : Int))).length = l.length := by simp [hs.1]
    rw [rd_get (by omega), List.getElem_set]
    by_cases e : i = j
    · rw [if_pos e]; subst e; rfl
    · rw [if_neg e, ← rd_get (by omega)]
      exact hs.2 j (by omega)

theorem laws_eqIntS_ev (l : List Int) (hn : l.length ≤ 1000000000000000) : Ev (fun k => laws_eqIntS.f k l l) true := by
  refine Ev.congr (fun k => by rw [laws_eqIntS.f]) (ev_pos rfl ?_)
  refine up_ev (σ := Unit) l.length (fun k _ i => laws_eqIntS.l0 k l l i) (fun _ _ => true) (fun _ _ => True) ?_ ?_ () 0 (by omega) trivial
  · intro _ _
    refine Ev.step (fun k => by rw [laws_eqIntS.l0]) ?_
    exact ev_neg (by omega) (ev_val rfl)
  · intro _ i hi _ ih
    refine Ev.step (fun k => by rw [laws_eqIntS.l0]) ?_
    refine ev_pos (by omega) (ev_pos (by omega) (ev_pos (by omega) (ev_pos rfl ?_)))
    rw [wsucc hi hn]
    exact ih () trivial

theorem l6In_eq (a b c : Int) : spec_l6In.f a b c = some (decide (b ≤ a ∧ a ≤ c)) := by
  unfold spec_l6In.f
  by_cases h : a ≥ b
  · rw [if_pos h]
    simp [show b ≤ a from h]
  · rw [if_neg h]
    simp [show ¬ b ≤ a from h]

theorem spec_l5Ruler_ev (l : List Int) (hn : l.length ≤ 1000000000000000) : Ev (fun k => spec_l5Ruler.f k l) (bl (Rul l)) := by
  have key := up_ev (σ := Unit) l.length (fun k _ i => spec_l5Ruler.l0 k l i) (fun _ i => bl (Ok l i ∧ Len9 l)) (fun _ _ => True)
    (by
      intro _ _
      refine Ev.step (fun k => by rw [spec_l5Ruler.l0]) ?_
      refine ev_neg (by omega) (ev_opt (l6In_eq _ _ _) (ev_val ?_))
      refine bl_dec ⟨fun h => ⟨fun j hj hl => by omega, by unfold Len9; omega⟩, fun h => ?_⟩
      have := h.2
      unfold Len9 at this
      omega)
    (by
      intro _ i hi _ ih
      have h1 := ih () trivial
      refine Ev.step (fun k => by rw [spec_l5Ruler.l0]) ?_
      refine ev_pos (by omega) (ev_pos (by omega) (ev_opt (l6In_eq _ _ _) ?_))
      refine ev_ite (fun c => ?_) (fun c => ev_val ?_)
      · have c := of_decide_eq_true c
        rw [wsucc hi hn]
        exact ev_eq h1 (bl_congr ⟨fun h => ⟨h.1.cons (by omega) (by omega), h.2⟩, fun h => ⟨h.1.tail, h.2⟩⟩)
      · refine (bl_false fun h => c (decide_eq_true ?_)).symm
        exact h.1 i (by omega) hi)
  refine Ev.congr (fun k => by rw [spec_l5Ruler.f]) ?_
  refine ev_eq (key () 0 (by omega) trivial) (bl_congr ?_)
  exact ⟨fun h => ⟨h.1, h.2⟩, fun h => ⟨h.1, h.2⟩⟩

theorem spec_FoldBack_ev (l : List Int) (hn : l.length ≤ 1000000000000000) : Ev (fun k => spec_FoldBack.f k l) (bif bl (Rul l) then (l.reverse, true) else ([], false)) := by
  refine Ev.congr (fun k => by rw [spec_FoldBack.f]) ?_
  refine ev_opt rfl ?_
  refine Ev.bind (spec_l5Ruler_ev l hn) (ev_ite (fun c => ?_) (fun c => ev_val ?_))
  · have h := bl_iff.1 c
    have hl := h.len
    rw [c, wid (x := (l.length : Int) - 1) (by omega) (by omega)]
    have key : ∀ (i : Nat) (s : List Int), i ≤ l.length → s.length + i = l.length → (∀ j : Nat, j < s.length → rd s (j : Int) = rd l ((l.length - 1 - j : Nat) : Int)) → Ev (fun k => spec_FoldBack.l0 k l s ((i : Int) - 1)) (l.reverse, true) := by
      intro i
      induction i with
      | zero =>
        intro s _ hs hj
        refine Ev.step (fun k => by rw [spec_FoldBack.l0]) ?_
        refine ev_neg (by omega) (ev_val ?_)
        congr 1
        refine ext_rd (by simp; omega) fun j hj2 => ?_
        rw [hj j hj2, rev_rd (by omega)]
      | succ i ih =>
        intro s hi hs hj
        have e : ((i + 1 : Nat) : Int) - 1 = (i : Int) := by omega
        rw [e]
        refine Ev.step (fun k => by rw [spec_FoldBack.l0]) ?_
        rw [wid (x := (i : Int) - 1) (by omega) (by omega)]
        refine ev_pos (by omega) (ev_pos (by omega) (ev_pos (by omega) (ev_pos (by omega) ?_)))
        refine ih _ (by omega) (by simp; omega) fun j hj2 => ?_
        by_cases ej : j < s.length
        · rw [rd_app ej]; exact hj j ej
        · obtain rfl : j = s.length := by simp at hj2; omega
          rw [rd_app2]
          congr 1
          omega
    exact key l.length [] (Nat.le_refl _) (by simp) (fun j hj => by simp at hj)
  · rw [Bool.not_eq_true] at c
    rw [c]; rfl

theorem impl_isRuler_ev (l : List Int) (hn : l.length ≤ 1000000000000000) : Ev (fun k => impl_isRuler.f k l) (bl (Rul l)) := by
  have key := up_ev (σ := Unit) l.length (fun k _ i => impl_isRuler.l0 k l l (l.length : Int) i) (fun _ i => bl (Ok l i ∧ Len9 l)) (fun _ _ => True)
    (by
      intro _ _
      refine Ev.step (fun k => by rw [impl_isRuler.l0]) ?_
      refine ev_neg (by omega) (ev_ite (fun c => ev_val ?_) (fun c => ev_val ?_))
      · refine bl_dec ⟨fun h => ⟨fun j hj hl => by omega, by unfold Len9; omega⟩, fun h => ?_⟩
        have := h.2
        unfold Len9 at this
        omega
      · refine (bl_false fun h => ?_).symm
        have := h.2
        unfold Len9 at this
        omega)
    (by
      intro _ i hi _ ih
      have h1 := ih () trivial
      refine Ev.step (fun k => by rw [impl_isRuler.l0]) ?_
      refine ev_pos (by omega) (ev_pos (by omega) (ev_pos (by omega) ?_))
      refine ev_ite (fun c => ev_val ?_) (fun c => ev_ite (fun c2 => ev_val ?_) (fun c2 => ?_))
      · refine (bl_false fun h => ?_).symm
        have := h.1 i (by omega) hi
        omega
      · refine (bl_false fun h => ?_).symm
        have := h.1 i (by omega) hi
        omega
      · rw [wsucc hi hn]
        exact ev_eq h1 (bl_congr ⟨fun h => ⟨h.1.cons (by omega) (by omega), h.2⟩, fun h => ⟨h.1.tail, h.2⟩⟩))
  refine Ev.congr (fun k => by rw [impl_isRuler.f]) ?_
  refine ev_eq (key () 0 (by omega) trivial) (bl_congr ?_)
  exact ⟨fun h => ⟨h.1, h.2⟩, fun h => ⟨h.1, h.2⟩⟩

theorem slices_Clone_eq (l : List Int) (hn : l.length ≤ 1048576) : slices_Clone_int_int.f l = some l := by
  unfold slices_Clone_int_int.f
  rw [if_pos (by omega)]
theorem slices_Reverse_ev (l : List Int) (hn : l.length ≤ 1048576) : Ev (fun k => slices_Reverse_int_int.f k l) l.reverse := by
  have key : ∀ (d t : Nat) (s : List Int), s.length = l.length → t + t + d = l.length → (∀ j : Nat, j < l.length → rd s (j : Int) = if j < t ∨ l.length - t ≤ j then rd l ((l.length - 1 - j : Nat) : Int) else rd l (j : Int)) → Ev (fun k => slices_Reverse_int_int.l0 k s (t : Int) ((l.length : Int) - 1 - t)) l.reverse := by
    intro d
    induction d using Nat.strongRecOn with
    | _ d ih =>
      intro t s hs hd hj
      refine Ev.step (fun k => by rw [slices_Reverse_int_int.l0]) ?_
      by_cases c : 2 ≤ d
      · have e1 : (l.length : Int) - 1 - t = ((l.length - 1 - t : Nat) : Int) := by omega
        rw [wid (x := (t : Int) + 1) (by omega) (by omega), wid (x := (l.length : Int) - 1 - t - 1) (by omega) (by omega), show (t : Int) + 1 = ((t + 1 : Nat) : Int) by omega, show (l.length : Int) - 1 - t - 1 = (l.length : Int) - 1 - ((t + 1 : Nat) : Int) by omega, e1]
        refine ev_pos (by omega) (ev_pos (by omega) (ev_pos (by omega) (ev_pos (by omega) (ev_pos (by omega) ?_))))
        rw [show ((t : Nat) : Int).toNat = t by omega, show (((l.length - 1 - t : Nat) : Int)).toNat = l.length - 1 - t by omega]
        have ht := hj t (by omega)
        have hu := hj (l.length - 1 - t) (by omega)
        rw [if_neg (by omega)] at ht hu
        refine ih (d - 2) (by omega) (t + 1) _ (by simp [hs]) (by omega) fun j hjl => ?_
        rw [rd_set _ (by simp; omega) j (by simp; omega), rd_set _ (by omega) j (by omega), ht, hu, hj j hjl]
        by_cases a1 : l.length - 1 - t = j
        · rw [if_pos a1, if_pos (by omega)]
          congr 1
          omega
        · rw [if_neg a1]
          by_cases a2 : t = j
          · rw [if_pos a2, if_pos (by omega)]
            congr 1
            omega
          · rw [if_neg a2]
            by_cases a3 : j < t ∨ l.length - t ≤ j
            · rw [if_pos a3, if_pos (by omega)]
            · rw [if_neg a3, if_neg (by omega)]
      · refine ev_neg (by omega) (ev_val ?_)
        refine ext_rd (by simp [hs]) fun j hjl => ?_
        rw [hj j (by omega), rev_rd (by omega)]
        by_cases a : j < t ∨ l.length - t ≤ j
        · rw [if_pos a]
        · rw [if_neg a]
          congr 1
          omega
  refine Ev.congr (fun k => by rw [slices_Reverse_int_int.f]) ?_
  rw [wid (x := (l.length : Int) - 1) (by omega) (by omega)]
  have h := key l.length 0 l rfl (by omega) fun j hj => by rw [if_neg (by omega)]
  rw [show (l.length : Int) - 1 - ((0 : Nat) : Int) = (l.length : Int) - 1 by omega] at h
  exact h
theorem impl_FoldBack_ev (l : List Int) (hn : l.length ≤ 1048576) : Ev (fun k => impl_FoldBack.f k l) (bif bl (Rul l) then (l.reverse, true) else ([], false)) := by
  refine Ev.congr (fun k => by rw [impl_FoldBack.f]) (Ev.bind (impl_isRuler_ev l (by omega)) (ev_ite (fun c => ?_) (fun c => ev_val ?_)))
  · rw [c]
    exact ev_opt (slices_Clone_eq l hn) (Ev.bind (slices_Reverse_ev l hn) (ev_val rfl))
  · rw [Bool.not_eq_true] at c
    rw [c]; rfl

theorem laws_markIntS_ev (l : List Int) (hn : l.length ≤ 1048576) : Ev (fun k => laws_markIntS.f k l 1) (1 + (l.length : Int), mkL 1 l.length) := by
  have key := up_ev (σ := List Int × Int) l.length (fun k s i => laws_markIntS.l0 k s.1 s.2 i) (fun _ _ => (1 + (l.length : Int), mkL 1 l.length)) (fun s i => s.1.length = l.length ∧ s.2 = 1 + (i : Int) ∧ ∀ j : Nat, j < i → rd s.1 (j : Int) = 1 + (j : Int))
    (by
      intro s hs
      refine Ev.step (fun k => by rw [laws_markIntS.l0]) ?_
      refine ev_neg (by omega) (ev_val ?_)
      rw [hs.2.1]
      congr 1
      refine ext_rd (by rw [mkL_len, hs.1]) fun j hj => ?_
      rw [hs.2.2 j (by omega), mkL_rd 1 (by omega)])
    (by
      intro s i hi hs ih
      refine Ev.step (fun k => by rw [laws_markIntS.l0]) ?_
      rw [wsucc hi (by omega), wid (x := s.2 + 1) (by omega) (by omega), show ((i : Nat) : Int).toNat = i by omega]
      refine ev_pos (by omega) (ev_pos (by omega) (ih (_, _) ⟨by simp [hs.1], by show s.2 + 1 = _; omega, fun j hj => ?_⟩))
      show rd (s.1.set i s.2) (j : Int) = _
      rw [rd_set _ (by omega) j (by omega)]
      by_cases e : i = j
      · rw [if_pos e]; omega
      · rw [if_neg e]; exact hs.2.2 j (by omega))
  refine Ev.congr (fun k => by rw [laws_markIntS.f]) ?_
  exact key (l, 1) 0 (by omega) ⟨rfl, by rfl, fun j hj => by omega⟩
theorem laws_heldIntS_ev (n : Nat) (hn : n ≤ 1048576) : Ev (fun k => laws_heldIntS.f k (mkL 1 n) 1) (1 + (n : Int)) := by
  have hl := mkL_len 1 n
  have key := up_ev (σ := Int) n (fun k s i => laws_heldIntS.l0 k (mkL 1 n) s i) (fun _ _ => 1 + (n : Int)) (fun s i => s = 1 + (i : Int))
    (by
      intro s hs
      refine Ev.step (fun k => by rw [laws_heldIntS.l0]) ?_
      exact ev_neg (by omega) (ev_val hs))
    (by
      intro s i hi hs ih
      refine Ev.step (fun k => by rw [laws_heldIntS.l0]) ?_
      rw [wsucc hi (by omega), wid (x := s + 1) (by omega) (by omega)]
      refine ev_pos (by omega) (ev_pos (by omega) (ev_pos (by rw [mkL_rd 1 hi, hs]) (ih _ (by omega)))))
  refine Ev.congr (fun k => by rw [laws_heldIntS.f]) ?_
  exact key 1 0 (by omega) rfl

theorem FnExactFoldBack : laws_FnExactFoldBack.Pure := by
  intro l0 hm h8 hw
  refine Ev.rounds (g := fun k => laws_FnExactFoldBack.f k l0) ?_
  refine Ev.congr (fun k => by rw [laws_FnExactFoldBack.f]) ?_
  refine ev_ite (fun c => ev_val rfl) (fun c => ?_)
  have hn : l0.length ≤ 1048576 := by omega
  have hn' : l0.length ≤ 1000000000000000 := by omega
  obtain ⟨r, hr⟩ : ∃ r : List Int × Bool, r = bif bl (Rul l0) then (l0.reverse, true) else ([], false) := ⟨_, rfl⟩
  have es := spec_FoldBack_ev l0 hn'
  have ei := impl_FoldBack_ev l0 hn
  have hrl : r.1.length ≤ 1048576 := by
    rw [hr]
    cases bl (Rul l0)
    · simp
    · simp; omega
  rw [← hr] at es ei
  clear hr
  obtain ⟨r, b⟩ := r
  simp only [] at hrl
  have et := laws_toIntS_ev l0 hn
  have eq := laws_eqIntS_ev r (by omega)
  refine Ev.bind et (Ev.bind es (Ev.bind et (Ev.bind ei (Ev.bind eq (ev_pos rfl ?_)))))
  refine Ev.step (fun k => by rw [laws_FnExactFoldBack.j0]) (ev_neg (by simp) ?_)
  refine Ev.bind et (Ev.bind (laws_eqIntS_ev l0 hn') (ev_pos rfl (Ev.bind (laws_markIntS_ev l0 hn) (ev_neg (by show ¬ 1 + (l0.length : Int) < 0; omega) (Ev.bind eq (ev_pos rfl ?_))))))
  refine Ev.step (fun k => by rw [laws_FnExactFoldBack.j1]) (ev_neg (by simp) ?_)
  refine Ev.bind (laws_markIntS_ev r hrl) (Ev.bind (laws_heldIntS_ev r.length hrl) (ev_neg (by omega) (ev_pos rfl ?_)))
  refine Ev.bind et (Ev.bind ei (Ev.bind eq (ev_pos rfl ?_)))
  refine Ev.step (fun k => by rw [laws_FnExactFoldBack.j2]) (ev_neg (by simp) ?_)
  exact Ev.bind (laws_heldIntS_ev r.length hrl) (ev_neg (by omega) (ev_pos rfl (ev_val rfl)))

end Go.Proofs.Ytiogpecgmbpmlaa.Pure
