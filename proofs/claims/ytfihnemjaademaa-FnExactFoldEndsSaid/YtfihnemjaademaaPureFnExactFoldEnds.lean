/- The plain part of the proof that the law FnExactFoldEnds answers true for every input: what its printed functions compute answers true, for all lists and numbers that the walk hands over; no condition beyond those. -/
import Derived.Test.YtfihnemjaademaaPEx9
import Derived.Test.YtfihnemjaademaaM
import Derived.Test.YtfihnemjaademaaMf
import Derived.Test.YtfihnemjaademaaMe
namespace Go.Proofs.Ytfihnemjaademaa.Pure
open Go.RowKit Go.Proofs.Ytfihnemjaademaa.PE Go.Proofs.YtfihnemjaademaaW.PrintWords Go.Proofs.YtfihnemjaademaaW.PrintLast Go.Proofs.YtfihnemjaademaaW.PrintMore Go.Proofs.Ytfihnemjaademaa.M
set_option linter.unusedVariables false
set_option linter.unusedSimpArgs false
set_option maxRecDepth 4000

theorem laws_toIntS_ev (l : List Int) (hn : l.length ≤ 1048576) : Ev (fun k => laws_toIntS.f k l) l := by
  refine Ev.congr (fun k => by rw [laws_toIntS.f]) (ev_pos (by omega) (ev_pos (by omega) ?_))
  refine up_ev (σ := List Int) l.length (fun k s i => laws_toIntS.l0 k l s i) (fun _ _ => l) (fun s i => s.length = l.length ∧ ∀ j : Nat, j < i → rd s (j : Int) = rd l (j : Int)) ?_ ?_ _ 0 (by omega) ⟨by simp, fun j hj => by omega⟩
  · intro s hs
    refine Ev.step (fun k => by rw [laws_toIntS.l0]) ?_
    exact ev_neg (by omega) (ev_val (ext_rd hs.1 fun j hj => hs.2 j (by omega)))
  · intro s i hi hs ih
    refine Ev.step (fun k => by rw [laws_toIntS.l0]) ?_
    refine ev_pos (by omega) (ev_pos (by omega) (ev_pos (by omega) ?_))
    rw [wsucc hi (by omega), show ((i : Nat) : Int).toNat = i by omega]
    refine ih _ ⟨by simp [hs.1], fun j hj => ?_⟩
    have hl : (s.set i (rd l (i : Int))).length = l.length := by simp [hs.1]
    rw [rd_get (by omega), List.getElem_set]
    by_cases e : i = j
    · rw [if_pos e]; subst e; rfl
    · rw [if_neg e, ← rd_get (by omega)]
      exact hs.2 j (by omega)

theorem laws_eqIntS_ev (l : List Int) (hn : l.length ≤ 1000000000000000) : Ev (fun k => laws_eqIntS.f k l l) true := by
  refine Ev.congr (fun k => by rw [laws_eqIntS.f]) (ev_pos rfl ?_)
  refine up_ev (σ := Unit) l.length (fun k _ i => laws_eqIntS.l0 k l l i) (fun _ _ => true) (fun _ _ => True) ?_ ?_ () 0 (by omega) trivial
  · intro _ _
    refine Ev.step (fun k => by rw [laws_eqIntS.l0]) ?_
    exact ev_neg (by omega) (ev_val rfl)
  · intro _ i hi _ ih
    refine Ev.step (fun k => by rw [laws_eqIntS.l0]) ?_
    refine ev_pos (by omega) (ev_pos (by omega) (ev_pos (by omega) (ev_pos rfl ?_)))
    rw [wsucc hi hn]
    exact ih () trivial

theorem l6In_eq (a b c : Int) : spec_l6In.f a b c = some (decide (b ≤ a ∧ a ≤ c)) := by
  unfold spec_l6In.f
  by_cases h : a ≥ b
  · rw [if_pos h]
    simp [show b ≤ a from h]
  · rw [if_neg h]
    simp [show ¬ b ≤ a from h]

theorem spec_l5Ruler_ev (l : List Int) (hn : l.length ≤ 1000000000000000) : Ev (fun k => spec_l5Ruler.f k l) (bl (Rul l)) := by
  have key := up_ev (σ := Unit) l.length (fun k _ i => spec_l5Ruler.l0 k l i) (fun _ i => bl (Ok l i ∧ Len9 l)) (fun _ _ => True)
    (by
      intro _ _
      refine Ev.step (fun k => by rw [spec_l5Ruler.l0]) ?_
      refine ev_neg (by omega) (ev_opt (l6In_eq _ _ _) (ev_val ?_))
      refine bl_dec ⟨fun h => ⟨fun j hj hl => by omega, by unfold Len9; omega⟩, fun h => ?_⟩
      have := h.2
      unfold Len9 at this
      omega)
    (by
      intro _ i hi _ ih
      have h1 := ih () trivial
      refine Ev.step (fun k => by rw [spec_l5Ruler.l0]) ?_
      refine ev_pos (by omega) (ev_pos (by omega) (ev_opt (l6In_eq _ _ _) ?_))
      refine ev_ite (fun c => ?_) (fun c => ev_val ?_)
      · have c := of_decide_eq_true c
        rw [wsucc hi hn]
        exact ev_eq h1 (bl_congr ⟨fun h => ⟨h.1.cons (by omega) (by omega), h.2⟩, fun h => ⟨h.1.tail, h.2⟩⟩)
      · refine (bl_false fun h => c (decide_eq_true ?_)).symm
        exact h.1 i (by omega) hi)
  refine Ev.congr (fun k => by rw [spec_l5Ruler.f]) ?_
  refine ev_eq (key () 0 (by omega) trivial) (bl_congr ?_)
  exact ⟨fun h => ⟨h.1, h.2⟩, fun h => ⟨h.1, h.2⟩⟩

theorem spec_l5Ends_ev (l : List Int) (h : Rul l) (s : Nat) (hs : s ≤ 512) : Ev (fun k => spec_l5Ends.f k l (s : Int)) (endM l s l.length) := by
  have hl := h.len
  have key := up_ev (σ := Int × Int × Int) l.length (fun k q j => spec_l5Ends.l0 k l (s : Int) q.1 q.2.1 q.2.2 j) (fun _ _ => endM l s l.length) (fun q j => q = endM l s j)
    (by
      intro q hq
      rw [hq]
      exact Ev.step (fun k => by rw [spec_l5Ends.l0]) (ev_neg (by omega) (ev_val rfl)))
    (by
      intro q j hj hq ih
      have hb := endM_bd h s j (by omega)
      have hx := h.1.at hj
      have hbit := bit_at hl.2 hj hs
      have hix := idx_at hl.2 hj
      have e : endM l s (j + 1) = if bitM l.length s j = 0 then ((endM l s j).1 + rd l (j : Int), mn (endM l s j).2.1 ((endM l s j).1 + rd l (j : Int)), mx (endM l s j).2.2 ((endM l s j).1 + rd l (j : Int))) else ((endM l s j).1 - rd l (j : Int), mn (endM l s j).2.1 ((endM l s j).1 - rd l (j : Int)), mx (endM l s j).2.2 ((endM l s j).1 - rd l (j : Int))) := rfl
      have hbt := bitM_lt l.length s j
      rw [← hq] at hb e
      refine Ev.step (fun k => by rw [spec_l5Ends.l0]) ?_
      rw [hbit, hix, wsucc hj (by omega), wid (x := q.1 + rd l (j : Int)) (by omega) (by omega), wid (x := q.1 - rd l (j : Int)) (by omega) (by omega)]
      refine ev_pos (by omega) (ev_pos (by omega) (ev_ite (fun c => ?_) (fun c => ?_)))
      · rw [if_neg (by omega)] at e
        exact ev_pos (by omega) (ih (_, _, _) e.symm)
      · rw [if_pos (by omega)] at e
        exact ev_pos (by omega) (ih (_, _, _) e.symm))
  refine Ev.congr (fun k => by rw [spec_l5Ends.f]) ?_
  exact key (0, 0, 0) 0 (by omega) rfl

theorem spec_l1Sum_ev (l : List Int) (h : Rul l) : Ev (fun k => spec_l1Sum.f k l) (tot l) := by
  have hl := h.len
  have key := up_ev (σ := Int) l.length (fun k s i => spec_l1Sum.l0 k l s i) (fun s i => s + tot (l.drop i)) (fun s i => 0 ≤ s ∧ s ≤ 60 * i)
    (by
      intro s _
      refine Ev.step (fun k => by rw [spec_l1Sum.l0]) ?_
      exact ev_neg (by omega) (ev_val (by rw [tot_drop_end]; omega)))
    (by
      intro s i hi hs ih
      have := h.1.at hi
      refine Ev.step (fun k => by rw [spec_l1Sum.l0]) ?_
      refine ev_pos (by omega) (ev_pos (by omega) ?_)
      rw [wsucc hi (by omega), wid (by omega) (by omega)]
      exact ev_eq (ih _ (by omega)) (by rw [tot_drop hi]; omega))
  refine Ev.congr (fun k => by rw [spec_l1Sum.f]) ?_
  exact ev_eq (key 0 0 (by omega) (by omega)) (by simp)

theorem spec_l5Reached_ev (l : List Int) (h : Rul l) : ∃ P : List Bool, Ev (fun k => spec_l5Reached.f k l) P ∧ Hits l (2 ^ l.length) P := by
  have hl := h.len
  have ht := h.tot
  have hp : 2 ^ l.length ≤ 2 ^ 9 := Nat.pow_le_pow_right (by decide) hl.2
  have hs1 := shl_one hl.2
  generalize hN : 2 ^ l.length = N at hp hs1
  have hstart : Hits l 0 (List.replicate (tot l + 1).toNat false) := Rep.empty (tot l) (by omega) _ (fun z _ q => q rfl)
  have key := up_ex (σ := List Bool) N (fun k s i => spec_l5Reached.l0 k l s i) (fun P => Hits l N P) (fun s i => Hits l i s)
    (by
      intro s hs
      refine ⟨s, Ev.step (fun k => by rw [spec_l5Reached.l0, hs1]) ?_, hs⟩
      exact ev_neg (by omega) (ev_val rfl))
    (by
      intro s i hi hs ih
      have hb := endM_bd h i l.length (Nat.le_refl _)
      have he := endM_tot h i l.length (Nat.le_refl _)
      rw [List.take_length] at he
      have hv : (endM l i l.length).1 ≤ tot l := by omega
      have hst := hits_step hs hv
      have hln := hs.1
      obtain ⟨r, e, q⟩ := ih _ hst
      refine ⟨r, Ev.step (fun k => by rw [spec_l5Reached.l0, hs1]) ?_, q⟩
      refine ev_pos (by omega) (Ev.bind (spec_l5Ends_ev l h i (by omega)) ?_)
      rw [wsucc hi (by omega)]
      refine ev_ite (fun c => ?_) (fun c => ?_)
      · rw [if_pos c] at e
        exact ev_pos (by omega) (ev_pos (by omega) e)
      · rw [if_neg c] at e
        exact e)
  obtain ⟨P, e, q⟩ := key _ 0 (by omega) hstart
  refine ⟨P, ?_, q⟩
  refine Ev.congr (fun k => by rw [spec_l5Reached.f]) (Ev.bind (spec_l1Sum_ev l h) ?_)
  rw [wid (by omega) (by omega)]
  exact ev_pos (by omega) (ev_pos (by omega) e)

theorem spec_FoldEnds_ev (l : List Int) (hn : l.length ≤ 1000000000000000) : Ev (fun k => spec_FoldEnds.f k l) (bif bl (Rul l) then (endsM l, true) else ([], false)) := by
  refine Ev.congr (fun k => by rw [spec_FoldEnds.f]) ?_
  refine ev_opt rfl (Ev.bind (spec_l5Ruler_ev l hn) (ev_ite (fun c => ?_) (fun c => ev_val ?_)))
  · have h := bl_iff.1 c
    rw [c]
    obtain ⟨P, e, q⟩ := spec_l5Reached_ev l h
    have ht := h.tot
    have hpl := q.1
    have hend := pick_ends h q
    refine Ev.bind e ?_
    have key := up_ev (σ := List Int) P.length (fun k s i => spec_FoldEnds.l0 k s P i) (fun _ _ => (pickM P P.length, true)) (fun s i => s = pickM P i)
      (by
        intro s hs
        refine Ev.step (fun k => by rw [spec_FoldEnds.l0]) ?_
        exact ev_neg (by omega) (ev_val (by rw [hs])))
      (by
        intro s i hi hs ih
        have hlen := pickM_len P i
        have e : pickM P (i + 1) = if rdOf false P (i : Int) = true then pickM P i ++ [(i : Int)] else pickM P i := rfl
        rw [← hs] at hlen e
        refine Ev.step (fun k => by rw [spec_FoldEnds.l0]) ?_
        rw [wsucc hi (by omega)]
        refine ev_pos (by omega) (ev_pos (by omega) (ev_ite (fun c => ?_) (fun c => ?_)))
        · rw [if_pos c] at e
          exact ev_pos (by omega) (ih _ e.symm)
        · rw [if_neg c] at e
          exact ih _ e.symm)
    have := key [] 0 (by omega) rfl
    rw [hend] at this
    exact this
  · rw [Bool.not_eq_true] at c
    rw [c]; rfl

theorem impl_isRuler_ev (l : List Int) (hn : l.length ≤ 1000000000000000) : Ev (fun k => impl_isRuler.f k l) (bl (Rul l)) := by
  have key := up_ev (σ := Unit) l.length (fun k _ i => impl_isRuler.l0 k l l (l.length : Int) i) (fun _ i => bl (Ok l i ∧ Len9 l)) (fun _ _ => True)
    (by
      intro _ _
      refine Ev.step (fun k => by rw [impl_isRuler.l0]) ?_
      refine ev_neg (by omega) (ev_ite (fun c => ev_val ?_) (fun c => ev_val ?_))
      · refine bl_dec ⟨fun h => ⟨fun j hj hl => by omega, by unfold Len9; omega⟩, fun h => ?_⟩
        have := h.2
        unfold Len9 at this
        omega
      · refine (bl_false fun h => ?_).symm
        have := h.2
        unfold Len9 at this
        omega)
    (by
      intro _ i hi _ ih
      have h1 := ih () trivial
      refine Ev.step (fun k => by rw [impl_isRuler.l0]) ?_
      refine ev_pos (by omega) (ev_pos (by omega) (ev_pos (by omega) ?_))
      refine ev_ite (fun c => ev_val ?_) (fun c => ev_ite (fun c2 => ev_val ?_) (fun c2 => ?_))
      · refine (bl_false fun h => ?_).symm
        have := h.1 i (by omega) hi
        omega
      · refine (bl_false fun h => ?_).symm
        have := h.1 i (by omega) hi
        omega
      · rw [wsucc hi hn]
        exact ev_eq h1 (bl_congr ⟨fun h => ⟨h.1.cons (by omega) (by omega), h.2⟩, fun h => ⟨h.1.tail, h.2⟩⟩))
  refine Ev.congr (fun k => by rw [impl_isRuler.f]) ?_
  refine ev_eq (key () 0 (by omega) trivial) (bl_congr ?_)
  exact ⟨fun h => ⟨h.1, h.2⟩, fun h => ⟨h.1, h.2⟩⟩

theorem impl_foldingsE_ev (l : List Int) (h : Rul l) (st : Nat → List Int) (hst : ∀ s : Nat, s < 2 ^ l.length → impl_FoldEnds_1.f (st s) (strOfNums (txtM l.length s l.length)) (endM l s l.length).1 (spanM l s) = some (st (s + 1))) : Ev (fun k => impl_foldingsE.f k l (st 0)) (st (2 ^ l.length)) := by
  have hl := h.len
  have hp : 2 ^ l.length ≤ 2 ^ 9 := Nat.pow_le_pow_right (by decide) hl.2
  refine Ev.congr (fun k => by rw [impl_foldingsE.f, shl_one hl.2]) ?_
  generalize 2 ^ l.length = N at hst hp ⊢
  have key := up_ev (σ := List Int) N (fun k s i => impl_foldingsE.l0 k l s (N : Int) i) (fun _ _ => st N) (fun s i => s = st i)
    (by
      intro s hs
      exact Ev.step (fun k => by rw [impl_foldingsE.l0]) (ev_neg (by omega) (ev_val hs)))
    (by
      intro s i hi hs ih
      refine Ev.step (fun k => by rw [impl_foldingsE.l0]) (ev_pos (by omega) ?_)
      have inner := up_ev (σ := List Int × Int × Int × Int) l.length (fun k q j => impl_foldingsE.l1 k l s (i : Int) q.1 q.2.1 q.2.2.1 q.2.2.2 (N : Int) (i : Int) l (l.length : Int) j) (fun _ _ => st N) (fun q j => q = (txtM l.length i j, endM l i j))
        (by
          intro q hq
          have hb := endM_bd h i l.length (Nat.le_refl _)
          have e1 : q.1 = txtM l.length i l.length := by rw [hq]
          have e2 : q.2 = endM l i l.length := by rw [hq]
          refine Ev.step (fun k => by rw [impl_foldingsE.l1]) (ev_neg (by omega) ?_)
          have hc := hst i hi
          unfold spanM at hc
          rw [e1, e2, hs]
          rw [← e2] at hb hc ⊢
          rw [wid (x := q.2.2.2 - q.2.2.1) (by omega) (by omega)]
          refine ev_opt hc ?_
          rw [wsucc hi (by omega)]
          exact ih _ rfl)
        (by
          intro q j hj hq ihj
          have hb := endM_bd h i j (by omega)
          have hx := h.1.at hj
          have hbit := bit_at hl.2 hj (show i ≤ 512 by omega)
          have hix := idx_at hl.2 hj
          have e : endM l i (j + 1) = if bitM l.length i j = 0 then ((endM l i j).1 + rd l (j : Int), mn (endM l i j).2.1 ((endM l i j).1 + rd l (j : Int)), mx (endM l i j).2.2 ((endM l i j).1 + rd l (j : Int))) else ((endM l i j).1 - rd l (j : Int), mn (endM l i j).2.1 ((endM l i j).1 - rd l (j : Int)), mx (endM l i j).2.2 ((endM l i j).1 - rd l (j : Int))) := rfl
          have et : txtM l.length i (j + 1) = txtM l.length i j ++ [if bitM l.length i j = 0 then 114 else 108] := rfl
          have hbt := bitM_lt l.length i j
          have htl := txtM_len l.length i j
          have e1 : q.1 = txtM l.length i j := by rw [hq]
          have e2 : q.2 = endM l i j := by rw [hq]
          rw [← e2] at hb e
          rw [← e1] at et htl
          refine Ev.step (fun k => by rw [impl_foldingsE.l1]) ?_
          rw [hbit, hix, wsucc hj (by omega), wid (x := q.2.1 + rd l (j : Int)) (by omega) (by omega), wid (x := q.2.1 - rd l (j : Int)) (by omega) (by omega)]
          refine ev_pos (by omega) (ev_pos (by omega) (ev_pos (by omega) (ev_pos (by omega) (ev_ite (fun c => ?_) (fun c => ?_)))))
          · rw [if_pos (by omega)] at e et
            refine ev_pos (by omega) (ihj (_, _, _, _) ?_)
            rw [et, e]; rfl
          · rw [if_neg (by omega)] at e et
            refine ev_pos (by omega) (ihj (_, _, _, _) ?_)
            rw [et, e]; rfl)
      exact inner ([], 0, 0, 0) 0 (by omega) rfl)
  exact key _ 0 (by omega) rfl

theorem impl_FoldEnds_ev (l : List Int) (hn : l.length ≤ 1000000000000000) : Ev (fun k => impl_FoldEnds.f k l) (bif bl (Rul l) then (endsM l, true) else ([], false)) := by
  refine Ev.congr (fun k => by rw [impl_FoldEnds.f]) (Ev.bind (impl_isRuler_ev l hn) (ev_ite (fun c => ?_) (fun c => ev_val ?_)))
  · have h := bl_iff.1 c
    have hl := h.len
    rw [c]
    have hp : 2 ^ l.length ≤ 2 ^ 9 := Nat.pow_le_pow_right (by decide) hl.2
    refine Ev.bind (impl_foldingsE_ev l h (endsTo l) ?_) ?_
    · intro s hs
      have hw := endsTo_len l s
      generalize 2 ^ l.length = N at hs hp
      have e : endsTo l (s + 1) = if (endM l s l.length).1 ≥ 0 then endsTo l s ++ [(endM l s l.length).1] else endsTo l s := rfl
      unfold impl_FoldEnds_1.f
      rw [e]
      by_cases c : (endM l s l.length).1 ≥ 0
      · rw [if_pos c, if_pos c, if_pos (by omega)]
      · rw [if_neg c, if_neg c]
    · have hw := endsTo_len l (2 ^ l.length)
      exact ev_pos (by omega) (ev_val rfl)
  · rw [Bool.not_eq_true] at c
    rw [c]; rfl

theorem laws_markIntS_ev (l : List Int) (hn : l.length ≤ 1048576) : Ev (fun k => laws_markIntS.f k l 1) (1 + (l.length : Int), mkL 1 l.length) := by
  have key := up_ev (σ := List Int × Int) l.length (fun k s i => laws_markIntS.l0 k s.1 s.2 i) (fun _ _ => (1 + (l.length : Int), mkL 1 l.length)) (fun s i => s.1.length = l.length ∧ s.2 = 1 + (i : Int) ∧ ∀ j : Nat, j < i → rd s.1 (j : Int) = 1 + (j : Int))
    (by
      intro s hs
      refine Ev.step (fun k => by rw [laws_markIntS.l0]) ?_
      refine ev_neg (by omega) (ev_val ?_)
      rw [hs.2.1]
      congr 1
      refine ext_rd (by rw [mkL_len, hs.1]) fun j hj => ?_
      rw [hs.2.2 j (by omega), mkL_rd 1 (by omega)])
    (by
      intro s i hi hs ih
      refine Ev.step (fun k => by rw [laws_markIntS.l0]) ?_
      rw [wsucc hi (by omega), wid (x := s.2 + 1) (by omega) (by omega), show ((i : Nat) : Int).toNat = i by omega]
      refine ev_pos (by omega) (ev_pos (by omega) (ih (_, _) ⟨by simp [hs.1], by show s.2 + 1 = _; omega, fun j hj => ?_⟩))
      show rd (s.1.set i s.2) (j : Int) = _
      rw [rd_set _ (by omega) j (by omega)]
      by_cases e : i = j
      · rw [if_pos e]; omega
      · rw [if_neg e]; exact hs.2.2 j (by omega))
  refine Ev.congr (fun k => by rw [laws_markIntS.f]) ?_
  exact key (l, 1) 0 (by omega) ⟨rfl, by rfl, fun j hj => by omega⟩
theorem laws_heldIntS_ev (n : Nat) (hn : n ≤ 1048576) : Ev (fun k => laws_heldIntS.f k (mkL 1 n) 1) (1 + (n : Int)) := by
  have hl := mkL_len 1 n
  have key := up_ev (σ := Int) n (fun k s i => laws_heldIntS.l0 k (mkL 1 n) s i) (fun _ _ => 1 + (n : Int)) (fun s i => s = 1 + (i : Int))
    (by
      intro s hs
      refine Ev.step (fun k => by rw [laws_heldIntS.l0]) ?_
      exact ev_neg (by omega) (ev_val hs))
    (by
      intro s i hi hs ih
      refine Ev.step (fun k => by rw [laws_heldIntS.l0]) ?_
      rw [wsucc hi (by omega), wid (x := s + 1) (by omega) (by omega)]
      refine ev_pos (by omega) (ev_pos (by omega) (ev_pos (by rw [mkL_rd 1 hi, hs]) (ih _ (by omega)))))
  refine Ev.congr (fun k => by rw [laws_heldIntS.f]) ?_
  exact key 1 0 (by omega) rfl

theorem FnExactFoldEnds : laws_FnExactFoldEnds.Pure := by
  intro l0 hm h8 hw
  refine Ev.rounds (g := fun k => laws_FnExactFoldEnds.f k l0) ?_
  refine Ev.congr (fun k => by rw [laws_FnExactFoldEnds.f]) ?_
  refine ev_ite (fun c => ev_val rfl) (fun c => ?_)
  have hn : l0.length ≤ 1048576 := by omega
  have hn' : l0.length ≤ 1000000000000000 := by omega
  obtain ⟨r, hr⟩ : ∃ r : List Int × Bool, r = bif bl (Rul l0) then (endsM l0, true) else ([], false) := ⟨_, rfl⟩
  have es := spec_FoldEnds_ev l0 hn'
  have ei := impl_FoldEnds_ev l0 hn'
  have hrl : r.1.length ≤ 1048576 := by
    rw [hr]
    by_cases h : Rul l0
    · rw [bl_true h]
      have := ends_len h
      show (endsM l0).length ≤ 1048576
      omega
    · rw [bl_false h]; simp
  rw [← hr] at es ei
  clear hr
  obtain ⟨r, b⟩ := r
  simp only [] at hrl
  have et := laws_toIntS_ev l0 hn
  have eq := laws_eqIntS_ev r (by omega)
  refine Ev.bind et (Ev.bind es (Ev.bind et (Ev.bind ei (Ev.bind eq (ev_pos rfl ?_)))))
  refine Ev.step (fun k => by rw [laws_FnExactFoldEnds.j0]) (ev_neg (by simp) ?_)
  refine Ev.bind et (Ev.bind (laws_eqIntS_ev l0 hn') (ev_pos rfl (Ev.bind (laws_markIntS_ev l0 hn) (ev_neg (by show ¬ 1 + (l0.length : Int) < 0; omega) (Ev.bind eq (ev_pos rfl ?_))))))
  refine Ev.step (fun k => by rw [laws_FnExactFoldEnds.j1]) (ev_neg (by simp) ?_)
  refine Ev.bind (laws_markIntS_ev r hrl) (Ev.bind (laws_heldIntS_ev r.length hrl) (ev_neg (by omega) (ev_pos rfl ?_)))
  refine Ev.bind et (Ev.bind ei (Ev.bind eq (ev_pos rfl ?_)))
  refine Ev.step (fun k => by rw [laws_FnExactFoldEnds.j2]) (ev_neg (by simp) ?_)
  exact Ev.bind (laws_heldIntS_ev r.length hrl) (ev_neg (by omega) (ev_pos rfl (ev_val rfl)))

end Go.Proofs.Ytfihnemjaademaa.Pure
