/- The plain part of the proof that the law FnExactFoldCase answers true for every input: what its printed functions compute answers true, for all lists and numbers that the walk hands over; no condition beyond those. -/
import Derived.Test.YtiogpecgmbpmlaaPAx10
import Derived.Test.YtiogpecgmbpmlaaM
import Derived.Test.YtiogpecgmbpmlaaMf
namespace Go.Proofs.Ytiogpecgmbpmlaa.Pure
open Go.RowKit Go.Proofs.Ytiogpecgmbpmlaa.PA Go.Proofs.YtiogpecgmbpmlaaW.PrintWords Go.Proofs.YtiogpecgmbpmlaaW.PrintLast Go.Proofs.YtiogpecgmbpmlaaW.PrintMore Go.Proofs.Ytiogpecgmbpmlaa.M
set_option linter.unusedVariables false
set_option linter.unusedSimpArgs false
set_option maxRecDepth 4000

theorem laws_toIntS_ev (l : List Int) (hn : l.length ≤ 1048576) : Ev (fun k => laws_toIntS.f k l) l := by
  refine Ev.congr (fun k => by rw [laws_toIntS.f]) (ev_pos (by omega) (ev_pos (by omega) ?_))
  refine up_ev (σ := List Int) l.length (fun k s i => laws_toIntS.l0 k l s i) (fun _ _ => l) (fun s i => s.length = l.length ∧ ∀ j : Nat, j < i → rd s (j : Int) = rd l (j : Int)) ?_ ?_ _ 0 (by omega) ⟨by simp, fun j hj => by omega⟩
  · intro s hs
    refine Ev.step (fun k => by rw [laws_toIntS.l0]) ?_
    exact ev_neg (by omega) (ev_val (ext_rd hs.1 fun j hj => hs.2 j (by omega)))
  · intro s i hi hs ih
    refine Ev.step (fun k => by rw [laws_toIntS.l0]) ?_
    refine ev_pos (by omega) (ev_pos (by omega) (ev_pos (by omega) ?_))
    rw [wsucc hi (by omega), show ((i : Nat) : Int).toNat = i by omega]
    refine ih _ ⟨by simp [hs.1], fun j hj => ?_⟩
    have hl : (s.set i (rd l (i : Int))).length = l.length := by simp [hs.1]
    rw [rd_get (by omega), List.getElem_set]
    by_cases e : i = j
    · rw [if_pos e]; subst e; rfl
    · rw [if_neg e, ← rd_get (by omega)]
      exact hs.2 j (by omega)

theorem laws_eqIntS_ev (l : List Int) (hn : l.length ≤ 1000000000000000) : Ev (fun k => laws_eqIntS.f k l l) true := by
  refine Ev.congr (fun k => by rw [laws_eqIntS.f]) (ev_pos rfl ?_)
  refine up_ev (σ := Unit) l.length (fun k _ i => laws_eqIntS.l0 k l l i) (fun _ _ => true) (fun _ _ => True) ?_ ?_ () 0 (by omega) trivial
  · intro _ _
    refine Ev.step (fun k => by rw [laws_eqIntS.l0]) ?_
    exact ev_neg (by omega) (ev_val rfl)
  · intro _ i hi _ ih
    refine Ev.step (fun k => by rw [laws_eqIntS.l0]) ?_
    refine ev_pos (by omega) (ev_pos (by omega) (ev_pos (by omega) (ev_pos rfl ?_)))
    rw [wsucc hi hn]
    exact ih () trivial

theorem l6In_eq (a b c : Int) : spec_l6In.f a b c = some (decide (b ≤ a ∧ a ≤ c)) := by
  unfold spec_l6In.f
  by_cases h : a ≥ b
  · rw [if_pos h]
    simp [show b ≤ a from h]
  · rw [if_neg h]
    simp [show ¬ b ≤ a from h]

theorem spec_l5Ruler_ev (l : List Int) (hn : l.length ≤ 1000000000000000) : Ev (fun k => spec_l5Ruler.f k l) (bl (Rul l)) := by
  have key := up_ev (σ := Unit) l.length (fun k _ i => spec_l5Ruler.l0 k l i) (fun _ i => bl (Ok l i ∧ Len9 l)) (fun _ _ => True)
    (by
      intro _ _
      refine Ev.step (fun k => by rw [spec_l5Ruler.l0]) ?_
      refine ev_neg (by omega) (ev_opt (l6In_eq _ _ _) (ev_val ?_))
      refine bl_dec ⟨fun h => ⟨fun j hj hl => by omega, by unfold Len9; omega⟩, fun h => ?_⟩
      have := h.2
      unfold Len9 at this
      omega)
    (by
      intro _ i hi _ ih
      have h1 := ih () trivial
      refine Ev.step (fun k => by rw [spec_l5Ruler.l0]) ?_
      refine ev_pos (by omega) (ev_pos (by omega) (ev_opt (l6In_eq _ _ _) ?_))
      refine ev_ite (fun c => ?_) (fun c => ev_val ?_)
      · have c := of_decide_eq_true c
        rw [wsucc hi hn]
        exact ev_eq h1 (bl_congr ⟨fun h => ⟨h.1.cons (by omega) (by omega), h.2⟩, fun h => ⟨h.1.tail, h.2⟩⟩)
      · refine (bl_false fun h => c (decide_eq_true ?_)).symm
        exact h.1 i (by omega) hi)
  refine Ev.congr (fun k => by rw [spec_l5Ruler.f]) ?_
  refine ev_eq (key () 0 (by omega) trivial) (bl_congr ?_)
  exact ⟨fun h => ⟨h.1, h.2⟩, fun h => ⟨h.1, h.2⟩⟩

theorem spec_l1Sum_ev (l : List Int) (h : Rul l) : Ev (fun k => spec_l1Sum.f k l) (tot l) := by
  have hl := h.len
  have key := up_ev (σ := Int) l.length (fun k s i => spec_l1Sum.l0 k l s i) (fun s i => s + tot (l.drop i)) (fun s i => 0 ≤ s ∧ s ≤ 60 * i)
    (by
      intro s _
      refine Ev.step (fun k => by rw [spec_l1Sum.l0]) ?_
      exact ev_neg (by omega) (ev_val (by rw [tot_drop_end]; omega)))
    (by
      intro s i hi hs ih
      have := h.1.at hi
      refine Ev.step (fun k => by rw [spec_l1Sum.l0]) ?_
      refine ev_pos (by omega) (ev_pos (by omega) ?_)
      rw [wsucc hi (by omega), wid (by omega) (by omega)]
      exact ev_eq (ih _ (by omega)) (by rw [tot_drop hi]; omega))
  refine Ev.congr (fun k => by rw [spec_l1Sum.f]) ?_
  exact ev_eq (key 0 0 (by omega) (by omega)) (by simp)

theorem spec_l5Fits_ev (l : List Int) (h : Rul l) (sp : Int) (h0 : 0 ≤ sp) (h1 : sp ≤ 10000) : Ev (fun k => spec_l5Fits.f k l sp) (bl (Fit l sp)) := by
  have hl := h.len
  obtain ⟨n, rfl⟩ := Int.eq_ofNat_of_zero_le h0
  have hP : ∀ x : Int, (0 ≤ x ∧ x ≤ (n : Int)) → 0 ≤ x ∧ x ≤ (n : Int) := fun _ h => h
  obtain ⟨P, hPd⟩ : ∃ P : Nat → Int → Prop, P = Pst l (n : Int) (fun x => 0 ≤ x ∧ x ≤ (n : Int)) := ⟨_, rfl⟩
  -- the last loop
  have k3 : ∀ s : List Bool, Rep s (n : Int) (P l.length) → Ev (fun k => spec_l5Fits.l3 k (n : Int) s 0) (bl (Fit l (n : Int))) := by
    intro s hs
    have key := up_ev (σ := Unit) (n + 1) (fun k _ i => spec_l5Fits.l3 k (n : Int) s i) (fun _ _ => bl (Fit l (n : Int))) (fun _ i => ∀ z : Nat, z < i → ¬ P l.length (z : Int))
      (by
        intro _ hz
        refine Ev.step (fun k => by rw [spec_l5Fits.l3]) ?_
        refine ev_neg (by omega) (ev_val (bl_false ?_).symm)
        rintro ⟨x, hx⟩
        have hx2 := Pst_in hP _ x hx
        rw [← hPd] at hx
        have := hz x.toNat (by omega)
        rw [show ((x.toNat : Nat) : Int) = x by omega] at this
        exact this hx)
      (by
        intro _ i hi hz ih
        have hl2 := hs.1
        have hr := hs.2 i (by omega)
        refine Ev.step (fun k => by rw [spec_l5Fits.l3]) ?_
        rw [wsucc (n := n + 1) hi (by omega)]
        refine ev_pos (by omega) (ev_pos (by omega) (ev_pos (by omega) (ev_ite (fun c => ev_val ?_) (fun c => ?_))))
        · have := hr.1 c
          rw [hPd] at this
          exact (bl_true ⟨_, this⟩).symm
        · refine ih () fun z hz2 => ?_
          by_cases e : z = i
          · subst e; exact fun hp => c (hr.2 hp)
          · exact hz z (by omega))
    exact key () 0 (by omega) fun z hz => by omega
  have k1 := up_ev (σ := List Bool) l.length (fun k s i => spec_l5Fits.l1 k l (n : Int) s i) (fun _ _ => bl (Fit l (n : Int))) (fun s i => Rep s (n : Int) (P i))
    (by
      intro s hs
      refine Ev.step (fun k => by rw [spec_l5Fits.l1]) ?_
      exact ev_neg (by omega) (k3 s hs))
    (by
      intro s i hi hs ih
      have ha := h.1.at hi
      have hsl := hs.1
      have w1 : wrap64 ((n : Int) + 1) = (n : Int) + 1 := wid (by omega) (by omega)
      have wi : wrap64 ((i : Int) + 1) = ((i + 1 : Nat) : Int) := wsucc hi (by omega)
      have k2 := up_ev (σ := List Bool) (n + 1) (fun k t y => spec_l5Fits.l2 k l (n : Int) s (i : Int) t y) (fun _ _ => bl (Fit l (n : Int))) (fun t y => Rep t (n : Int) (Qst (P i) (rd l (i : Int)) (y : Int)))
        (by
          intro t ht
          refine Ev.step (fun k => by rw [spec_l5Fits.l2]) (ev_neg (by omega) ?_)
          rw [wi]
          refine ih t (ht.congr fun z z0 z1 => ?_)
          rw [hPd, show ((n + 1 : Nat) : Int) = (n : Int) + 1 by omega]
          exact Qst_full hP i z z0 z1)
        (by
          intro t y hy ht ihy
          have htl := ht.1
          have hr := hs.2 y (by omega)
          have wy : wrap64 ((y : Int) + 1) = ((y + 1 : Nat) : Int) := wsucc (n := n + 1) hy (by omega)
          have wa : wrap64 ((y : Int) + rd l (i : Int)) = (y : Int) + rd l (i : Int) := wid (by omega) (by omega)
          have wb : wrap64 ((y : Int) - rd l (i : Int)) = (y : Int) - rd l (i : Int) := wid (by omega) (by omega)
          have e1 : ((y + 1 : Nat) : Int) = (y : Int) + 1 := by omega
          refine Ev.step (fun k => by rw [spec_l5Fits.l2]) ?_
          refine ev_pos (by omega) (ev_pos (by omega) (ev_pos (by omega) ?_))
          by_cases hp : P i (y : Int)
          · have hrt := hr.2 hp
            have hfin : ∀ t2 : List Bool, Rep t2 (n : Int) (fun z => z = (y : Int) + rd l (i : Int) ∧ (y : Int) + rd l (i : Int) ≤ n ∨ Qst (P i) (rd l (i : Int)) (y : Int) z) → Ev (fun k => if 0 ≤ (y : Int) then (if (y : Int) < (s.length : Int) then (if rdOf false s (y : Int) = true then (if (y : Int) ≥ (rd l (i : Int)) then (if 0 ≤ (wrap64 ((y : Int) - (rd l (i : Int)))) then (if (wrap64 ((y : Int) - (rd l (i : Int)))) < (t.length : Int) then (spec_l5Fits.l2 k l (n : Int) s (i : Int) (t2.set ((wrap64 ((y : Int) - (rd l (i : Int)))) : Int).toNat true) (wrap64 ((y : Int) + 1))) else (none)) else (none)) else (spec_l5Fits.l2 k l (n : Int) s (i : Int) t2 (wrap64 ((y : Int) + 1)))) else (spec_l5Fits.l2 k l (n : Int) s (i : Int) t2 (wrap64 ((y : Int) + 1)))) else (none)) else (none)) (bl (Fit l (n : Int))) := by
              intro t2 h2
              have h2l := h2.1
              rw [wb, wy]
              refine ev_pos (by omega) (ev_pos (by omega) (ev_pos hrt (ev_ite (fun c => ?_) (fun c => ?_))))
              · refine ev_pos (by omega) (ev_pos (by omega) (ihy _ ?_))
                refine (h2.set ((y : Int) - rd l (i : Int)) (by omega) (by omega)).congr fun z z0 z1 => ?_
                rw [e1, Qst_yes (by omega) hp]
                constructor
                · rintro (a | ⟨a, b⟩ | a)
                  · exact Or.inl (Or.inr a)
                  · exact Or.inl (Or.inl a)
                  · exact Or.inr a
                · rintro ((a | a) | a)
                  · exact Or.inr (Or.inl ⟨a, by omega⟩)
                  · exact Or.inl a
                  · exact Or.inr (Or.inr a)
              · refine ihy _ (h2.congr fun z z0 z1 => ?_)
                rw [e1, Qst_yes (by omega) hp]
                constructor
                · rintro (⟨a, b⟩ | a)
                  · exact Or.inl (Or.inl a)
                  · exact Or.inr a
                · rintro ((a | a) | a)
                  · exact Or.inl ⟨a, by omega⟩
                  · omega
                  · exact Or.inr a
            refine ev_pos hrt (ev_pos (by omega) (ev_pos (by omega) ?_))
            rw [wa]
            refine Ev.step (fun k => by rw [spec_l5Fits.j3]) ?_
            refine ev_ite (fun c => ?_) (fun c => ?_)
            · have c := of_decide_eq_true c
              rw [wa]
              refine ev_pos (by omega) (ev_pos (by omega) (ev_pos (by omega) (ev_pos (by omega) (ev_opt rfl ?_))))
              refine hfin (t.set ((y : Int) + rd l (i : Int)).toNat true) ?_
              refine (ht.set ((y : Int) + rd l (i : Int)) (by omega) (by omega)).congr fun z z0 z1 => ?_
              constructor
              · rintro (a | a)
                · exact Or.inl ⟨a, c⟩
                · exact Or.inr a
              · rintro (⟨a, b⟩ | a)
                · exact Or.inl a
                · exact Or.inr a
            · have c : ¬ ((y : Int) + rd l (i : Int) ≤ n) := fun h => c (decide_eq_true h)
              have hh := hfin t (ht.congr fun z z0 z1 => ⟨fun a => Or.inr a, fun a => a.elim (fun b => absurd b.2 c) id⟩)
              refine ev_pos (by omega) (ev_pos (by omega) (ev_pos hrt (ev_pos (by omega) (ev_pos (by omega) ?_))))
              obtain ⟨K, hh⟩ := hh
              refine ⟨K, fun k hk => ?_⟩
              have hh := hh k hk
              dsimp only at hh
              rw [if_pos (by omega), if_pos (by omega), if_pos hrt] at hh
              exact hh
          · have hrt : ¬ rdOf false s (y : Int) = true := fun c => hp (hr.1 c)
            refine ev_neg hrt ?_
            refine Ev.step (fun k => by rw [spec_l5Fits.j3]) ?_
            refine ev_neg (by simp) (ev_pos (by omega) (ev_pos (by omega) (ev_neg hrt ?_)))
            rw [wy]
            refine ihy t (ht.congr fun z z0 z1 => ?_)
            rw [e1, Qst_no (by omega) hp])
      refine Ev.step (fun k => by rw [spec_l5Fits.l1]) ?_
      rw [w1]
      refine ev_pos (by omega) (ev_pos (by omega) (ev_pos (by omega) ?_))
      exact k2 _ 0 (by omega) (Rep.empty (n : Int) (by omega) _ fun z _ => Qst_zero _ _ z))
  have k0 := up_ev (σ := List Bool) (n + 1) (fun k s y => spec_l5Fits.l0 k l (n : Int) s y) (fun _ _ => bl (Fit l (n : Int))) (fun s y => Rep s (n : Int) (fun z => z < (y : Int)))
    (by
      intro s hs
      refine Ev.step (fun k => by rw [spec_l5Fits.l0]) (ev_neg (by omega) ?_)
      refine k1 s 0 (by omega) (hs.congr fun z z0 z1 => ?_)
      rw [hPd]
      show z < ((n + 1 : Nat) : Int) ↔ (0 ≤ z ∧ z ≤ (n : Int))
      omega)
    (by
      intro s y hy hs ih
      have hsl := hs.1
      refine Ev.step (fun k => by rw [spec_l5Fits.l0]) ?_
      rw [wsucc (n := n + 1) hy (by omega)]
      refine ev_pos (by omega) (ev_pos (by omega) (ev_pos (by omega) (ih _ ?_)))
      refine (hs.set (y : Int) (by omega) (by omega)).congr fun z z0 z1 => ?_
      omega)
  refine Ev.congr (fun k => by rw [spec_l5Fits.f]) ?_
  rw [wid (x := (n : Int) + 1) (by omega) (by omega)]
  refine ev_pos (by omega) (ev_pos (by omega) ?_)
  exact k0 _ 0 (by omega) (Rep.empty (n : Int) (by omega) _ fun z z0 => by show ¬ z < ((0 : Nat) : Int); omega)

theorem impl_isRuler_ev (l : List Int) (hn : l.length ≤ 1000000000000000) : Ev (fun k => impl_isRuler.f k l) (bl (Rul l)) := by
  have key := up_ev (σ := Unit) l.length (fun k _ i => impl_isRuler.l0 k l l (l.length : Int) i) (fun _ i => bl (Ok l i ∧ Len9 l)) (fun _ _ => True)
    (by
      intro _ _
      refine Ev.step (fun k => by rw [impl_isRuler.l0]) ?_
      refine ev_neg (by omega) (ev_ite (fun c => ev_val ?_) (fun c => ev_val ?_))
      · refine bl_dec ⟨fun h => ⟨fun j hj hl => by omega, by unfold Len9; omega⟩, fun h => ?_⟩
        have := h.2
        unfold Len9 at this
        omega
      · refine (bl_false fun h => ?_).symm
        have := h.2
        unfold Len9 at this
        omega)
    (by
      intro _ i hi _ ih
      have h1 := ih () trivial
      refine Ev.step (fun k => by rw [impl_isRuler.l0]) ?_
      refine ev_pos (by omega) (ev_pos (by omega) (ev_pos (by omega) ?_))
      refine ev_ite (fun c => ev_val ?_) (fun c => ev_ite (fun c2 => ev_val ?_) (fun c2 => ?_))
      · refine (bl_false fun h => ?_).symm
        have := h.1 i (by omega) hi
        omega
      · refine (bl_false fun h => ?_).symm
        have := h.1 i (by omega) hi
        omega
      · rw [wsucc hi hn]
        exact ev_eq h1 (bl_congr ⟨fun h => ⟨h.1.cons (by omega) (by omega), h.2⟩, fun h => ⟨h.1.tail, h.2⟩⟩))
  refine Ev.congr (fun k => by rw [impl_isRuler.f]) ?_
  refine ev_eq (key () 0 (by omega) trivial) (bl_congr ?_)
  exact ⟨fun h => ⟨h.1, h.2⟩, fun h => ⟨h.1, h.2⟩⟩

theorem impl_sum_ev (l : List Int) (h : Rul l) : Ev (fun k => impl_sum.f k l) (tot l) := by
  have hl := h.len
  have key := up_ev (σ := Int) l.length (fun k s i => impl_sum.l0 k s l (l.length : Int) i) (fun s i => s + tot (l.drop i)) (fun s i => 0 ≤ s ∧ s ≤ 60 * i)
    (by
      intro s _
      refine Ev.step (fun k => by rw [impl_sum.l0]) ?_
      exact ev_neg (by omega) (ev_val (by rw [tot_drop_end]; omega)))
    (by
      intro s i hi hs ih
      have := h.1.at hi
      refine Ev.step (fun k => by rw [impl_sum.l0]) ?_
      refine ev_pos (by omega) (ev_pos (by omega) (ev_pos (by omega) ?_))
      rw [wsucc hi (by omega), wid (by omega) (by omega)]
      exact ev_eq (ih _ (by omega)) (by rw [tot_drop hi]; omega))
  refine Ev.congr (fun k => by rw [impl_sum.f]) ?_
  exact ev_eq (key 0 0 (by omega) (by omega)) (by simp)

theorem slices_Index_bool_ev (s : List Bool) (n : Nat) (hn : n ≤ 10000) (Q : Int → Prop) (hs : Rep s (n : Int) Q) : ∃ r : Int, Ev (fun k => slices_Index_bool_bool.f k s true) r ∧ (0 ≤ r ↔ ∃ z : Nat, z ≤ n ∧ Q (z : Int)) := by
  have hl := hs.1
  have key := up_ex (σ := Unit) (n + 1) (fun k _ i => slices_Index_bool_bool.l0 k s true (s.length : Int) i) (fun r => 0 ≤ r ↔ ∃ z : Nat, z ≤ n ∧ Q (z : Int)) (fun _ i => ∀ z : Nat, z < i → ¬ Q (z : Int))
    (by
      intro _ hz
      refine ⟨-1, ?_, fun h => by omega, fun ⟨z, hz1, hz2⟩ => absurd hz2 (hz z (by omega))⟩
      refine Ev.step (fun k => by rw [slices_Index_bool_bool.l0]) ?_
      exact ev_neg (by omega) (ev_val rfl))
    (by
      intro _ i hi hz ih
      have hr := hs.2 i (by omega)
      by_cases c : Q (i : Int)
      · refine ⟨(i : Int), ?_, fun _ => ⟨i, by omega, c⟩, fun _ => by omega⟩
        refine Ev.step (fun k => by rw [slices_Index_bool_bool.l0]) ?_
        exact ev_pos (by omega) (ev_pos (by omega) (ev_pos (by omega) (ev_pos (by rw [hr.2 c]; rfl) (ev_val rfl))))
      · obtain ⟨r, h1, h2⟩ := ih () fun z hz2 => by
          by_cases e : z = i
          · subst e; exact c
          · exact hz z (by omega)
        have hf : rdOf false s (i : Int) = false := by
          rw [← Bool.not_eq_true]
          exact fun h => c (hr.1 h)
        refine ⟨r, ?_, h2⟩
        refine Ev.step (fun k => by rw [slices_Index_bool_bool.l0]) ?_
        rw [wsucc (n := n + 1) hi (by omega)]
        exact ev_pos (by omega) (ev_pos (by omega) (ev_pos (by omega) (ev_neg (by rw [hf]; simp) h1))))
  obtain ⟨r, h1, h2⟩ := key () 0 (by omega) fun z hz => by omega
  refine ⟨r, ?_, h2⟩
  refine Ev.congr (fun k => by rw [slices_Index_bool_bool.f]) ?_
  exact h1
theorem slices_Contains_bool_ev (s : List Bool) (n : Nat) (hn : n ≤ 10000) (Q : Int → Prop) (hs : Rep s (n : Int) Q) : Ev (fun k => slices_Contains_bool_bool.f k s true) (bl (∃ z : Nat, z ≤ n ∧ Q (z : Int))) := by
  obtain ⟨r, h1, h2⟩ := slices_Index_bool_ev s n hn Q hs
  refine Ev.congr (fun k => by rw [slices_Contains_bool_bool.f]) (Ev.bind h1 (ev_val ?_))
  exact bl_dec h2

theorem impl_FoldFits_ev (l : List Int) (sp : Int) (hn : l.length ≤ 1000000000000000) : Ev (fun k => impl_FoldFits.f k l sp) (bl (Rul l ∧ 0 ≤ sp ∧ Fit l sp)) := by
  have ht : ¬ (Rul l ∧ 0 ≤ sp) → Ev (fun k => impl_FoldFits.j0 k l sp true) (bl (Rul l ∧ 0 ≤ sp ∧ Fit l sp)) := by
    intro hx
    refine Ev.step (fun k => by rw [impl_FoldFits.j0]) ?_
    exact ev_pos rfl (ev_val (bl_false fun h => hx ⟨h.1, h.2.1⟩).symm)
  refine Ev.congr (fun k => by rw [impl_FoldFits.f]) (Ev.bind (impl_isRuler_ev l hn) (ev_ite (fun c => ?_) (fun c => ht fun h => c (bl_true h.1))))
  have h := bl_iff.1 c
  have hl := h.len
  have htot := h.tot
  by_cases c0 : sp < 0
  · rw [decide_eq_true c0]
    exact ht fun h => by omega
  rw [decide_eq_false c0]
  refine Ev.step (fun k => by rw [impl_FoldFits.j0]) (ev_neg (by simp) (Ev.bind (impl_sum_ev l h) ?_))
  have hmn : 0 ≤ mn sp (tot l) ∧ mn sp (tot l) ≤ 540 := by unfold mn; split <;> omega
  rw [bl_congr (P := Rul l ∧ 0 ≤ sp ∧ Fit l sp) (Q := Fit l (mn sp (tot l))) ⟨fun hh => (Fit_min h sp hh.2.1).2 hh.2.2, fun hh => ⟨h, by omega, (Fit_min h sp (by omega)).1 hh⟩⟩]
  generalize mn sp (tot l) = q at *
  obtain ⟨n, rfl⟩ := Int.eq_ofNat_of_zero_le hmn.1
  clear htot c0
  have w1 : Aside0 (wrap64 ((n : Int) + 1) = (n : Int) + 1) := ⟨wid (by omega) (by omega)⟩
  have cA : 0 ≤ (n : Int) + 1 := by omega
  have cB : ((n : Int) + 1).toNat ≤ 281474976710656 := by omega
  rw [w1.out]
  have key0 := up_ev (σ := Unit) (n + 1) (fun k _ f => impl_FoldFits.l0 k l (n : Int) ((n : Int) + 1) f) (fun _ _ => bl (Fit l (n : Int))) (fun _ f => ∀ z : Nat, z < f → ¬ ∃ x, Pst l (n : Int) (fun x => x = (z : Int)) l.length x)
    (by
      intro _ hz
      refine Ev.step (fun k => by rw [impl_FoldFits.l0]) (ev_neg (by omega) (ev_val (bl_false ?_).symm))
      intro hf
      obtain ⟨f, hf1, hf2⟩ := Fit_from.1 hf
      have := hz f.toNat (by omega)
      rw [show ((f.toNat : Nat) : Int) = f by omega] at this
      exact this hf2)
    (by
      intro _ f hf hz ihf
      have hP : ∀ x : Int, x = (f : Int) → 0 ≤ x ∧ x ≤ (n : Int) := fun x hx => by omega
      obtain ⟨P, hPd⟩ : ∃ P : Nat → Int → Prop, P = Pst l (n : Int) (fun x => x = (f : Int)) := ⟨_, rfl⟩
      have wf : Aside0 (wrap64 ((f : Int) + 1) = ((f + 1 : Nat) : Int)) := ⟨wsucc (n := n + 1) hf (by omega)⟩
      have k1 := up_ev (σ := List Bool) l.length (fun k s i => impl_FoldFits.l1 k l (n : Int) s ((n : Int) + 1) (f : Int) l (l.length : Int) i) (fun _ _ => bl (Fit l (n : Int))) (fun s i => Rep s (n : Int) (P i))
        (by
          intro s hs
          refine Ev.step (fun k => by rw [impl_FoldFits.l1]) (ev_neg (by omega) (Ev.bind (slices_Contains_bool_ev s n (by omega) _ hs) (ev_ite (fun c => ev_val ?_) (fun c => ?_))))
          · obtain ⟨z, hz1, hz2⟩ := bl_iff.1 c
            rw [hPd] at hz2
            exact (bl_true (Fit_from.2 ⟨(f : Int), by omega, _, hz2⟩)).symm
          · rw [wf.out]
            refine ihf () fun z hz2 => ?_
            by_cases e : z = f
            · subst e
              rintro ⟨x, hx⟩
              have hx2 := Pst_in hP _ x hx
              rw [← hPd] at hx
              exact c (bl_true ⟨x.toNat, by omega, by rw [show ((x.toNat : Nat) : Int) = x by omega]; exact hx⟩)
            · exact hz z (by omega))
        (by
          intro s i hi hs ih
          have ha := h.1.at hi
          have hsl := hs.1
          have wi : Aside0 (wrap64 ((i : Int) + 1) = ((i + 1 : Nat) : Int)) := ⟨wsucc hi (by omega)⟩
          have k2 := up_ev (σ := List Bool) (n + 1) (fun k t y => impl_FoldFits.l2 k l (n : Int) (rd l (i : Int)) t ((n : Int) + 1) (f : Int) l (l.length : Int) (i : Int) s (s.length : Int) y) (fun _ _ => bl (Fit l (n : Int))) (fun t y => Rep t (n : Int) (Qst (P i) (rd l (i : Int)) (y : Int)))
            (by
              intro t ht
              refine Ev.step (fun k => by rw [impl_FoldFits.l2]) (ev_neg (by omega) ?_)
              rw [wi.out]
              refine ih t (ht.congr fun z z0 z1 => ?_)
              rw [hPd, show ((n + 1 : Nat) : Int) = (n : Int) + 1 by omega]
              exact Qst_full hP i z z0 z1)
            (by
              intro t y hy ht ihy
              have htl := ht.1
              have hr := hs.2 y (by omega)
              have wy : Aside0 (wrap64 ((y : Int) + 1) = ((y + 1 : Nat) : Int)) := ⟨wsucc (n := n + 1) hy (by omega)⟩
              have wa : Aside0 (wrap64 ((y : Int) + rd l (i : Int)) = (y : Int) + rd l (i : Int)) := ⟨wid (by omega) (by omega)⟩
              have wb : Aside0 (wrap64 ((y : Int) - rd l (i : Int)) = (y : Int) - rd l (i : Int)) := ⟨wid (by omega) (by omega)⟩
              have e1 : ((y + 1 : Nat) : Int) = (y : Int) + 1 := by omega
              refine Ev.step (fun k => by rw [impl_FoldFits.l2]) ?_
              refine ev_pos (by omega) (ev_pos (by omega) (ev_pos (by omega) ?_))
              by_cases hp : P i (y : Int)
              · have hrt := hr.2 hp
                rw [hrt, wa.out]
                refine ev_pos rfl ?_
                have hfin : ∀ t2 : List Bool, Rep t2 (n : Int) (fun z => z = (y : Int) + rd l (i : Int) ∧ (y : Int) + rd l (i : Int) ≤ n ∨ Qst (P i) (rd l (i : Int)) (y : Int) z) → Ev (fun k => if true = true then (if (wrap64 ((y : Int) - rd l (i : Int))) ≥ 0 then (if 0 ≤ (wrap64 ((y : Int) - rd l (i : Int))) then (if (wrap64 ((y : Int) - rd l (i : Int))) < (t.length : Int) then (impl_FoldFits.l2 k l (n : Int) (rd l (i : Int)) (t2.set ((wrap64 ((y : Int) - rd l (i : Int))) : Int).toNat true) ((n : Int) + 1) (f : Int) l (l.length : Int) (i : Int) s (s.length : Int) (wrap64 ((y : Int) + 1))) else (none)) else (none)) else (impl_FoldFits.l2 k l (n : Int) (rd l (i : Int)) t2 ((n : Int) + 1) (f : Int) l (l.length : Int) (i : Int) s (s.length : Int) (wrap64 ((y : Int) + 1)))) else (impl_FoldFits.l2 k l (n : Int) (rd l (i : Int)) t2 ((n : Int) + 1) (f : Int) l (l.length : Int) (i : Int) s (s.length : Int) (wrap64 ((y : Int) + 1)))) (bl (Fit l (n : Int))) := by
                  intro t2 h2
                  have h2l := h2.1
                  rw [wb.out, wy.out]
                  refine ev_pos rfl (ev_ite (fun c => ?_) (fun c => ?_))
                  · refine ev_pos (by omega) (ev_pos (by omega) (ihy _ ?_))
                    refine (h2.set ((y : Int) - rd l (i : Int)) (by omega) (by omega)).congr fun z z0 z1 => ?_
                    rw [e1, Qst_yes (by omega) hp]
                    constructor
                    · rintro (a | ⟨a, b⟩ | a)
                      · exact Or.inl (Or.inr a)
                      · exact Or.inl (Or.inl a)
                      · exact Or.inr a
                    · rintro ((a | a) | a)
                      · exact Or.inr (Or.inl ⟨a, by omega⟩)
                      · exact Or.inl a
                      · exact Or.inr (Or.inr a)
                  · refine ihy _ (h2.congr fun z z0 z1 => ?_)
                    rw [e1, Qst_yes (by omega) hp]
                    constructor
                    · rintro (⟨a, b⟩ | a)
                      · exact Or.inl (Or.inl a)
                      · exact Or.inr a
                    · rintro ((a | a) | a)
                      · exact Or.inl ⟨a, by omega⟩
                      · omega
                      · exact Or.inr a
                refine Ev.step (fun k => by rw [impl_FoldFits.j4]) ?_
                refine ev_ite (fun c => ?_) (fun c => ?_)
                · have c := of_decide_eq_true c
                  rw [wa.out]
                  refine ev_pos (by omega) (ev_pos (by omega) (ev_opt rfl ?_))
                  refine hfin (t.set ((y : Int) + rd l (i : Int)).toNat true) ?_
                  refine (ht.set ((y : Int) + rd l (i : Int)) (by omega) (by omega)).congr fun z z0 z1 => ?_
                  constructor
                  · rintro (a | a)
                    · exact Or.inl ⟨a, c⟩
                    · exact Or.inr a
                  · rintro (⟨a, b⟩ | a)
                    · exact Or.inl a
                    · exact Or.inr a
                · have c : ¬ ((y : Int) + rd l (i : Int) ≤ n) := fun h => c (decide_eq_true h)
                  exact hfin t (ht.congr fun z z0 z1 => ⟨fun a => Or.inr a, fun a => a.elim (fun b => absurd b.2 c) id⟩)
              · have hrt : rdOf false s (y : Int) = false := by
                  rw [← Bool.not_eq_true]
                  exact fun c => hp (hr.1 c)
                rw [hrt]
                refine ev_neg (by simp) ?_
                refine Ev.step (fun k => by rw [impl_FoldFits.j4]) ?_
                refine ev_neg (by simp) (ev_neg (by simp) ?_)
                rw [wy.out]
                refine ihy t (ht.congr fun z z0 z1 => ?_)
                rw [e1, Qst_no (by omega) hp])
          refine Ev.step (fun k => by rw [impl_FoldFits.l1]) ?_
          rw [w1.out]
          have c1 : (i : Int) < (l.length : Int) := by omega
          have c2 : 0 ≤ (i : Int) := by omega
          refine ev_pos c1 (ev_pos c2 (ev_pos c1 (ev_pos cA (ev_pos cB ?_))))
          exact k2 _ 0 (by omega) (Rep.empty (n : Int) (by omega) _ fun z _ => Qst_zero _ _ z))
      refine Ev.step (fun k => by rw [impl_FoldFits.l0]) ?_
      rw [w1.out]
      refine ev_pos (by omega) (ev_pos cA (ev_pos cB (ev_opt rfl (ev_pos (by omega) (ev_pos (by simp; omega) ?_)))))
      refine k1 _ 0 (by omega) ?_
      rw [hPd]
      refine ((Rep.empty (n : Int) (by omega) (fun _ => False) fun z _ h => h).set (f : Int) (by omega) (by omega)).congr fun z z0 z1 => ?_
      show (z = (f : Int) ∨ False) ↔ z = (f : Int)
      simp)
  exact key0 () 0 (by omega) fun z hz => by omega

theorem fold_case_ex (l : List Int) (h : Rul l) : ∃ m : Nat, m ≤ 540 ∧ Fit l (m : Int) ∧ ∀ j : Nat, j < m → ¬ Fit l (j : Int) := by
  have ht := h.tot
  have hf := Fit_tot h
  obtain ⟨n, hn⟩ := Int.eq_ofNat_of_zero_le (show 0 ≤ tot l by omega)
  rw [hn] at hf
  obtain ⟨m, h1, h2, h3⟩ := least_ex (Fit l) n hf
  exact ⟨m, by omega, h2, h3⟩
theorem spec_FoldCase_yes (l : List Int) (h : Rul l) (m : Nat) (hm : m ≤ 540) (h1 : Fit l (m : Int)) (h2 : ∀ j : Nat, j < m → ¬ Fit l (j : Int)) : Ev (fun k => spec_FoldCase.f k l) ((m : Int), true) := by
  have hl := h.len
  have key : ∀ (d i : Nat), i + d = m → Ev (fun k => spec_FoldCase.l0 k l (i : Int)) ((m : Int), true) := by
    intro d
    induction d with
    | zero =>
      intro i hi
      obtain rfl : i = m := by omega
      refine Ev.step (fun k => by rw [spec_FoldCase.l0]) (Ev.bind (spec_l5Fits_ev l h _ (by omega) (by omega)) (ev_pos (bl_true h1) (ev_val rfl)))
    | succ d ih =>
      intro i hi
      refine Ev.step (fun k => by rw [spec_FoldCase.l0]) (Ev.bind (spec_l5Fits_ev l h _ (by omega) (by omega)) (ev_neg ?_ ?_))
      · rw [bl_false (h2 i (by omega))]; simp
      · rw [wsucc (n := m) (by omega) (by omega)]
        exact ih (i + 1) (by omega)
  refine Ev.congr (fun k => by rw [spec_FoldCase.f]) (Ev.bind (spec_l5Ruler_ev l (by omega)) (ev_pos (bl_true h) ?_))
  exact key m 0 (by omega)
theorem spec_FoldCase_no (l : List Int) (hn : l.length ≤ 1000000000000000) (h : ¬ Rul l) : Ev (fun k => spec_FoldCase.f k l) (0, false) := by
  refine Ev.congr (fun k => by rw [spec_FoldCase.f]) (Ev.bind (spec_l5Ruler_ev l hn) (ev_neg ?_ (ev_val rfl)))
  rw [bl_false h]; simp
theorem impl_FoldCase_yes (l : List Int) (h : Rul l) (m : Nat) (hm : m ≤ 540) (h1 : Fit l (m : Int)) (h2 : ∀ j : Nat, j < m → ¬ Fit l (j : Int)) : Ev (fun k => impl_FoldCase.f k l) ((m : Int), true) := by
  have hl := h.len
  have key : ∀ (d i : Nat), i + d = m → Ev (fun k => impl_FoldCase.l0 k l (i : Int)) ((m : Int), true) := by
    intro d
    induction d with
    | zero =>
      intro i hi
      obtain rfl : i = m := by omega
      refine Ev.step (fun k => by rw [impl_FoldCase.l0]) (Ev.bind (impl_FoldFits_ev l (i : Int) (by omega)) (ev_pos (bl_true (P := Rul l ∧ 0 ≤ (i : Int) ∧ Fit l (i : Int)) ⟨h, by omega, h1⟩) (ev_val rfl)))
    | succ d ih =>
      intro i hi
      refine Ev.step (fun k => by rw [impl_FoldCase.l0]) (Ev.bind (impl_FoldFits_ev l _ (by omega)) (ev_neg ?_ ?_))
      · rw [bl_false (fun hh => h2 i (by omega) hh.2.2)]; simp
      · rw [wsucc (n := m) (by omega) (by omega)]
        exact ih (i + 1) (by omega)
  refine Ev.congr (fun k => by rw [impl_FoldCase.f]) (Ev.bind (impl_isRuler_ev l (by omega)) (ev_pos (bl_true h) ?_))
  exact key m 0 (by omega)
theorem impl_FoldCase_no (l : List Int) (hn : l.length ≤ 1000000000000000) (h : ¬ Rul l) : Ev (fun k => impl_FoldCase.f k l) (0, false) := by
  refine Ev.congr (fun k => by rw [impl_FoldCase.f]) (Ev.bind (impl_isRuler_ev l hn) (ev_neg ?_ (ev_val rfl)))
  rw [bl_false h]; simp

theorem FnExactFoldCase : laws_FnExactFoldCase.Pure := by
  intro l0 hm h8 hw
  refine Ev.rounds (g := fun k => laws_FnExactFoldCase.f k l0) ?_
  refine Ev.congr (fun k => by rw [laws_FnExactFoldCase.f]) ?_
  refine ev_ite (fun c => ev_val rfl) (fun c => ?_)
  have hn : l0.length ≤ 1048576 := by omega
  have hn' : l0.length ≤ 1000000000000000 := by omega
  obtain ⟨r, e1, e2⟩ : ∃ r, Ev (fun k => spec_FoldCase.f k l0) r ∧ Ev (fun k => impl_FoldCase.f k l0) r := by
    by_cases h : Rul l0
    · obtain ⟨m, m1, m2, m3⟩ := fold_case_ex l0 h
      exact ⟨_, spec_FoldCase_yes l0 h m m1 m2 m3, impl_FoldCase_yes l0 h m m1 m2 m3⟩
    · exact ⟨_, spec_FoldCase_no l0 hn' h, impl_FoldCase_no l0 hn' h⟩
  refine Ev.bind (laws_toIntS_ev l0 hn) (Ev.bind e1 (Ev.bind (laws_toIntS_ev l0 hn) (Ev.bind e2 ?_)))
  refine ev_pos rfl ?_
  refine Ev.step (fun k => by rw [laws_FnExactFoldCase.j0]) (ev_neg (by simp) ?_)
  exact Ev.bind (laws_toIntS_ev l0 hn) (Ev.bind (laws_eqIntS_ev l0 hn') (ev_pos rfl (ev_val rfl)))

end Go.Proofs.Ytiogpecgmbpmlaa.Pure
